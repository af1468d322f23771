/- The evaluator's soundness, second part. -/
import Derived.Test.YtknhngnhjdpedaaGreatV6
import Derived.LoopN
set_option linter.unusedSimpArgs false
set_option linter.unusedVariables false
namespace Go.Ev
def Ex.to : Ex → Exit
 | .normal => .normal
 | .exit id => .exit id
 | .ret => .ret
theorem zG7 (l : List V) (d : Option Nat) (v : V) : (setO l d v).length = l.length := by cases d <;> simp [setO]
theorem zQS (s : St) (o : Oper) (x : Option Eff) : (putO s o x).tm.length = s.tm.length := by cases x <;> exact zG7 _ _ _
section
variable {P : Program} {E : Env} {fd : FD} {call : Oracle} {w0 : World} {X Y0 : Nat → Prop} {fix : List (Nat × Value)}
theorem Trace.len {ops : Array Oper} {r : List Oper} {s s' : St} {xs : List (Option Eff)} (t : Trace E fd call ops r s xs s') : s'.tm.length = s.tm.length := by
 induction t with
 | nil s => rfl
 | cons h t ih => rw [ih, zQS]
def LoopOk (P : Program) (fd : FD) (N : Nat) (body : Code) (info : LoopInfo) (m : Nat) (tvs outs : List TV) : Prop :=
 ∃ (e : Ex) (sh : Shape), (∀ k : Ex → St → Option (List TV), exitsK N outs k info.outs 0 = k e (sh.build N outs 1)) ∧ (sh.build N outs 1).tm.length = N ∧
  ∀ (w0 : World) (X Y0 : Nat → Prop) (fix : List (Nat × Value)) (ρ : Locs) (col : Col) (a : Act) (w : World) (Q : Exit → Act → World → Prop), FixOk fd w0 X Y0 fix →
   Inv w0 X Y0 fix (info.inS.build N tvs 0) ρ col a w → (∀ ρ' col' a' w', Inv w0 X Y0 fix (sh.build N outs 1) ρ' col' a' w' → Q e.to a' w') → Code.rounds P body Q m a w
def JoinOk (P : Program) (fd : FD) (N : Nat) (body : Code) (info : LoopInfo) (tvs outs : List TV) : Prop :=
 ∃ (e : Ex) (sh : Shape), (∀ k : Ex → St → Option (List TV), exitsK N outs k info.outs 0 = k e (sh.build N outs 1)) ∧ (sh.build N outs 1).tm.length = N ∧
  ∀ (w0 : World) (X Y0 : Nat → Prop) (fix : List (Nat × Value)) (ρ : Locs) (col : Col) (a : Act) (w : World) (Q : Exit → Act → World → Prop), FixOk fd w0 X Y0 fix →
   Inv w0 X Y0 fix (info.inS.build N tvs 0) ρ col a w → (∀ ρ' col' a' w', Inv w0 X Y0 fix (sh.build N outs 1) ρ' col' a' w' → Q e.to a' w') → body.wp P Q a w
theorem zKi (hm : P.follows .mixedOrders = true) (hop : OpOk P E fd call w0 X Y0 fix) (hfix : fix.map (·.1) = fd.fixed) {id : Nat} {ops : Array Oper} {draw : Bool} {s s' : St} {xs : List (Option Eff)}
  (t : Trace E fd call ops ops.toList s xs s') (hd : draw = true → drawOk ops (ancGo ops.toList []) (xs.map logO) ops.size = true ∧ backOk ops.toList 0 = true)
  {ρ : Locs} {col : Col} {a : Act} {w : World} {Q : Exit → Act → World → Prop} (h : Inv w0 X Y0 fix s ρ col a w) (hQ : ∀ ρ' col' a' w', Inv w0 X Y0 fix s' ρ' col' a' w' → Q .normal a' w') :
  (Code.region id ops draw).wp P Q a w := by
 cases draw with
 | false =>
  refine wp_region ?_; have := zPA hop hfix t [] ρ col a w (by simp) h hQ; simpa [List.range_eq_range'] using this
 | true =>
  obtain ⟨h1, h2⟩ := hd rfl; obtain ⟨g1, g2, g3⟩ := zOn (s0 := s) t [] [] (by simp) rfl rfl; simp only [List.nil_append] at g1 g2 g3
  refine wp_region_any hm (zQB hop hfix (s0 := s) (xs := xs) (fun m hm => g3 m (by simp) hm) (zHz _ h1) (fun k o ho j hj => ?_) (fun ρ col a w h => hQ ρ col a w (by rw [g2]; exact h)) ops.size
   (Array.replicate ops.size false) ρ col a _ (by simp) ?_ (fun j o hj => ?_) ?_)
  · have := zLN ops.toList 0 h2 k o (by simpa using ho) j hj; omega
  · have := List.length_filter_le (fun j => !(Array.replicate ops.size false).getD j false) (List.range ops.size); simpa using this
  · exfalso; simp [Array.getD_eq_getD_getElem?, Array.getElem?_replicate] at hj; split at hj <;> simp at hj
  · have e : pre ops xs s (fun j => (Array.replicate ops.size false).getD j false) ops.size = pre ops xs s (fun j => (Array.replicate ops.size false).getD j false) 0 := zJg ops.size (by omega) (fun j _ => by
     simp [Array.getD_eq_getD_getElem?, Array.getElem?_replicate]; split <;> simp)
    rw [e]; exact h.world rfl (by first | exact ⟨rfl, rfl, rfl, Nat.le_refl _⟩ | exact ⟨rfl, rfl, rfl, Nat.le_add_right _ _⟩)
theorem zKs {s : St} {c : Operand} {b : Bool} (h : (s.eval c).bool? = some b) : s.litO c b = s := by
 cases c with
 | tmp t =>
  refine zM8 ?_; have e : s.tm.getD t .undef = s.eval (.tmp t) := rfl
  cases hv : (s.eval (.tmp t)).one with
  | none => simp [V.bool?, hv] at h
  | some u =>
   have := zHx hv; simp only [V.bool?, hv, Option.bind_some] at h
   cases u with
   | c x => cases x <;> simp_all [W.bool?, V.guard?]
   | _ => simp [W.bool?] at h
 | _ => rfl
def HookOk (P : Program) (E : Env) (fd : FD) (call : Oracle) (N id : Nat) (h : Hook) (ops : Array Oper) : Prop :=
 ∀ (s : St) (k : St → Option (List TV)) (res : List TV), hookK E fd call h ops s k = some res → s.tm.length = N → ∃ s', k s' = some res ∧ s'.tm.length = N ∧
  ∀ (w0 : World) (X Y0 : Nat → Prop) (fix : List (Nat × Value)), FixOk fd w0 X Y0 fix → ∀ ρ col a w (Q : Exit → Act → World → Prop), Inv w0 X Y0 fix s ρ col a w → (∀ ρ' col' a' w', Inv w0 X Y0 fix s' ρ' col' a' w' → Q .normal a' w') → (Code.region id ops false).wp P Q a w
theorem ky (hm : P.follows .mixedOrders = true) (hop : ∀ w0 X Y0 fix, FixOk fd w0 X Y0 fix → OpOk P E fd call w0 X Y0 fix) {N m : Nat}
  (hh : ∀ id h ops, fd.hooks.lookup id = some h → HookOk P E fd call N id h ops) : ∀ (c : Code)
  (hl : ∀ body ∈ loopsOf c, ∀ info, fd.loops.lookup (firstRegion body) = some info → ∀ tvs outs, call info.lid tvs = some outs → LoopOk P fd N body info m tvs outs)
  (hj : ∀ body ∈ restsOf c, ∀ info, fd.joins.lookup (firstRegion body) = some info → ∀ tvs outs, call info.lid tvs = some outs → JoinOk P fd N body info tvs outs)
  {s : St} {k : Ex → St → Option (List TV)} {res : List TV}, exec E fd call c s k = some res → s.tm.length = N →
  ∃ e s', k e s' = some res ∧ s'.tm.length = N ∧ ∀ (w0 : World) (X Y0 : Nat → Prop) (fix : List (Nat × Value)), FixOk fd w0 X Y0 fix → ∀ ρ col a w (Q : Exit → Act → World → Prop), Inv w0 X Y0 fix s ρ col a w → (∀ ρ' col' a' w', Inv w0 X Y0 fix s' ρ' col' a' w' → Q e.to a' w') → c.wp P Q a w
 | .skip, hl, hj, s, k, res, h, hN => ⟨.normal, s, h, hN, fun w0 X Y0 fix hfix ρ col a w Q hi hQ => wp_skip (hQ ρ col a w hi)⟩
 | .exit id, hl, hj, s, k, res, h, hN => ⟨.exit id, s, h, hN, fun w0 X Y0 fix hfix ρ col a w Q hi hQ => wp_exit (hQ ρ col a w hi)⟩
 | .ret, hl, hj, s, k, res, h, hN => ⟨.ret, s, h, hN, fun w0 X Y0 fix hfix ρ col a w Q hi hQ => wp_ret (hQ ρ col a w hi)⟩
 | .region id ops draw, hl, hj, s, k, res, h, hN => by
  simp only [exec] at h
  split at h
  · rename_i h0 hlk
    cases draw with
    | true => simp at h
    | false =>
     simp only [cond_false] at h; obtain ⟨s', g1, g2, g3⟩ := hh id h0 ops hlk s _ res h hN; exact ⟨.normal, s', g1, g2, fun w0 X Y0 fix hfix ρ col a w Q hi hQ => g3 w0 X Y0 fix hfix ρ col a w Q hi hQ⟩
  obtain ⟨xs, s', t, h2⟩ := zBQ _ _ _ h; have hk : k .normal s' = some res ∧ (draw = true → drawOk ops (ancGo ops.toList []) (xs.map logO) ops.size = true ∧ backOk ops.toList 0 = true) := by
   cases draw with
   | false => exact ⟨h2, fun e => by simp at e⟩
   | true =>
    simp only [List.append_nil, List.reverse_reverse] at h2
    split at h2
    · rename_i hc; simp only [Bool.and_eq_true] at hc; exact ⟨h2, fun _ => hc⟩
    · simp at h2
  exact ⟨.normal, s', hk.1, by rw [t.len, hN], fun w0 X Y0 fix hfix ρ col a w Q hi hQ => zKi hm (hop w0 X Y0 fix hfix) hfix.1 t hk.2 hi hQ⟩
 | .seq a b, hl, hj, s, k, res, h, hN => by
  simp only [exec] at h; obtain ⟨e, s1, h1, hN1, f1⟩ := ky hm hop hh a (fun body hb => hl body (by simp [loopsOf, hb])) (fun body hb => hj body (by simp [restsOf, hb])) h hN
  cases e with
  | normal =>
   simp only at h1
   split at h1
   · obtain ⟨e2, s2, h2, hN2, f2⟩ := ky hm hop hh b (fun body hb => hl body (by simp [loopsOf, hb])) (fun body hb => hj body (by simp [restsOf, hb])) h1 hN1; exact ⟨e2, s2, h2, hN2, fun w0 X Y0 fix hfix ρ col a w Q hi hQ => wp_seq (f1 w0 X Y0 fix hfix ρ col a w _ hi fun ρ' col' a' w' hi' => f2 w0 X Y0 fix hfix ρ' col' a' w' Q hi' hQ)⟩
   · rename_i info hinfo; unfold joinK at h1
     split at h1
     · rename_i tvs htv; rw [Option.bind_eq_some_iff] at h1; obtain ⟨outs, ho, h2⟩ := h1; obtain ⟨e2, sh, g1, g2, g3⟩ := hj b (by simp [restsOf]) info hinfo tvs outs ho; rw [hN1, g1] at h2; refine ⟨e2, _, h2, g2, fun w0 X Y0 fix hfix ρ col a w Q hi hQ => wp_seq (f1 w0 X Y0 fix hfix ρ col a w _ hi fun ρ' col' a' w' hi' => ?_)⟩; obtain ⟨ρ1, col1, hi1⟩ := zCa hi' htv []; rw [hN1] at hi1; exact g3 w0 X Y0 fix ρ1 col1 a' w' Q hfix hi1 hQ
     · simp at h1
  | exit id => exact ⟨.exit id, s1, h1, hN1, fun w0 X Y0 fix hfix ρ col a w Q hi hQ => wp_seq (f1 w0 X Y0 fix hfix ρ col a w _ hi hQ)⟩
  | ret => exact ⟨.ret, s1, h1, hN1, fun w0 X Y0 fix hfix ρ col a w Q hi hQ => wp_seq (f1 w0 X Y0 fix hfix ρ col a w _ hi hQ)⟩
 | .cond c x y, hl, hj, s, k, res, h, hN => by
  simp only [exec] at h
  split at h
  · rename_i b hb
    cases b with
    | true =>
     simp only [cond, zKs hb] at h; obtain ⟨e, s1, h1, hN1, f1⟩ := ky hm hop hh x (fun body hb => hl body (by simp [loopsOf, hb])) (fun body hb => hj body (by simp [restsOf, hb])) h hN; exact ⟨e, s1, h1, hN1, fun w0 X Y0 fix hfix ρ col a w Q hi hQ => wp_cond_true (hi.evalBool hb) (f1 w0 X Y0 fix hfix ρ col a w Q hi hQ)⟩
    | false =>
     simp only [cond, zKs hb] at h; obtain ⟨e, s1, h1, hN1, f1⟩ := ky hm hop hh y (fun body hb => hl body (by simp [loopsOf, hb])) (fun body hb => hj body (by simp [restsOf, hb])) h hN; exact ⟨e, s1, h1, hN1, fun w0 X Y0 fix hfix ρ col a w Q hi hQ => wp_cond_false (hi.evalBool hb) (f1 w0 X Y0 fix hfix ρ col a w Q hi hQ)⟩
  · simp at h
 | .block id a, hl, hj, s, k, res, h, hN => by
  simp only [exec] at h; obtain ⟨e, s1, h1, hN1, f1⟩ := ky hm hop hh a (fun body hb => hl body (by simp [loopsOf, hb])) (fun body hb => hj body (by simp [restsOf, hb])) h hN
  cases e with
  | normal => exact ⟨.normal, s1, h1, hN1, fun w0 X Y0 fix hfix ρ col a w Q hi hQ => wp_block (f1 w0 X Y0 fix hfix ρ col a w _ hi hQ)⟩
  | ret => exact ⟨.ret, s1, h1, hN1, fun w0 X Y0 fix hfix ρ col a w Q hi hQ => wp_block (f1 w0 X Y0 fix hfix ρ col a w _ hi hQ)⟩
  | exit id' =>
   simp only at h1
   by_cases e : id' = id
   · rw [if_pos e] at h1; refine ⟨.normal, s1, h1, hN1, fun w0 X Y0 fix hfix ρ col a w Q hi hQ => wp_block (f1 w0 X Y0 fix hfix ρ col a w _ hi fun ρ' col' a' w' hi' => ?_)⟩; simp only [Ex.to, Exit.inBlock, if_pos e]; exact hQ ρ' col' a' w' hi'
   · rw [if_neg e] at h1; refine ⟨.exit id', s1, h1, hN1, fun w0 X Y0 fix hfix ρ col a w Q hi hQ => wp_block (f1 w0 X Y0 fix hfix ρ col a w _ hi fun ρ' col' a' w' hi' => ?_)⟩; simp only [Ex.to, Exit.inBlock, if_neg e]; exact hQ ρ' col' a' w' hi'
 | .loop b, hl, hj, s, k, res, h, hN => by
  simp only [exec] at h
  split at h
  · rename_i info hinfo
    split at h
    · rename_i tvs htv; rw [Option.bind_eq_some_iff] at h; obtain ⟨outs, ho, h⟩ := h; obtain ⟨e, sh, g1, g2, g3⟩ := hl b (by simp [loopsOf]) info hinfo tvs outs ho; rw [hN, g1] at h; refine ⟨e, _, h, g2, fun w0 X Y0 fix hfix ρ col a w Q hi hQ => ?_⟩; obtain ⟨ρ1, col1, hi1⟩ := zCa hi htv []; rw [hN] at hi1; exact wp_loop_rounds m (g3 w0 X Y0 fix ρ1 col1 a w Q hfix hi1 hQ)
    · simp at h
  · simp at h
 | .rangeFunc _ _ _ _, hl, hj, s, k, res, h, hN => by simp [exec] at h
 | .scope _, hl, hj, s, k, res, h, hN => by simp [exec] at h
 | .label _, hl, hj, s, k, res, h, hN => by simp [exec] at h
 | .goto _, hl, hj, s, k, res, h, hN => by simp [exec] at h
 | .refuse _, hl, hj, s, k, res, h, hN => by simp [exec] at h
end
end Go.Ev
namespace Go.Ev
abbrev NL := List (Nat × Option Nat × Bool)
def Names.has (β : Names) (L : NL) : Prop := ∀ q ∈ L, β q.1 = some q.2.1
theorem Names.has_append {β : Names} {L M : NL} : β.has (L ++ M) ↔ β.has L ∧ β.has M := by
 simp only [Names.has, List.mem_append]; exact ⟨fun h => ⟨fun q hq => h q (.inl hq), fun q hq => h q (.inr hq)⟩, fun h q hq => hq.elim (h.1 q) (h.2 q)⟩
def minesOf (L : NL) : List Nat := L.filterMap fun q => if q.2.2 then q.2.1 else none
theorem zd (L M : NL) : minesOf (L ++ M) = minesOf L ++ minesOf M := List.filterMap_append
theorem RelCs.append {β : Names} : ∀ {a b c d : List C}, RelCs β a b → RelCs β c d → RelCs β (a ++ c) (b ++ d)
 | [], [], _, _, _, h => h
 | _ :: _, _ :: _, _, _, h, g => ⟨h.1, RelCs.append h.2 g⟩
 | [], _ :: _, _, _, h, _ => h.elim
 | _ :: _, [], _, _, h, _ => h.elim
def RowNew (ob : Objs) (L : NL) (us : List (Nat × Mode)) (m : Mode) (j : Nat) (y : Obj) : Prop :=
 ∃ u xs, y = .row m u xs ∧ (((j, none, m.mine) ∈ L ∧ xs = []) ∨ ∃ o m0, (j, some o, m.mine) ∈ L ∧ ob o = some (.row m0 u xs) ∧ (o, m0) ∈ us)
theorem RowNew.mono {ob : Objs} {L L' : NL} {us us' : List (Nat × Mode)} {m : Mode} {j : Nat} {y : Obj} (h : RowNew ob L us m j y) (h1 : ∀ q ∈ L, q ∈ L') (h2 : ∀ q ∈ us, q ∈ us') : RowNew ob L' us' m j y := by
 obtain ⟨u, xs, e, h | ⟨o, m0, g1, g2, g3⟩⟩ := h
 · exact ⟨u, xs, e, .inl ⟨h1 _ h.1, h.2⟩⟩
 · exact ⟨u, xs, e, .inr ⟨o, m0, h1 _ g1, g2, h2 _ g3⟩⟩
theorem zCn {ob : Objs} : ∀ {t : Ty} {cs : List C} {x : t.den} {us : List (Nat × Mode)} {r : List C}, packC ob t cs = some (x, us, r) → ∀ (m : Mode) (id : Nat),
  ∃ (L : NL) (cs1 : List C), cs = cs1 ++ r ∧ L.map (·.1) = (unpackC m t x id).2.map (·.1) ∧ L.filterMap (·.2.1) = us.map (·.1) ∧ (∀ q ∈ L, q.2.2 = m.mine) ∧
   (∀ β : Names, β.has L → RelCs β cs1 (unpackC m t x id).1) ∧ (∀ q ∈ (unpackC m t x id).2, RowNew ob L us m q.1 q.2) ∧ C.slices cs = L.map (·.2.1) ++ C.slices r
 | .int k, cs, x, us, r, h, m, id => by
  match cs, h with
  | .int k' n :: r', h =>
   simp only [packC] at h
   split at h
   · rename_i hk; subst hk; simp only [Option.some.injEq, Prod.mk.injEq] at h; obtain ⟨rfl, rfl, rfl⟩ := h; exact ⟨[], [.int k' n], rfl, rfl, rfl, fun q hq => by simp at hq, fun β _ => ⟨rfl, trivial⟩, fun q hq => by simp [unpackC] at hq, rfl⟩
   · simp at h
 | .bool, cs, x, us, r, h, m, id => by
  match cs, h with
  | .bool b :: r', h =>
   simp only [packC, Option.some.injEq, Prod.mk.injEq] at h; obtain ⟨rfl, rfl, rfl⟩ := h; exact ⟨[], [.bool b], rfl, rfl, rfl, fun q hq => by simp at hq, fun β _ => ⟨rfl, trivial⟩, fun q hq => by simp [unpackC] at hq, rfl⟩
 | .arr k m', cs, x, us, r, h, m, id => by
  match cs, h with
  | [], h => simp [packC] at h
  | c :: cs, h => cases c <;> simp [packC] at h
 | .barr m', cs, x, us, r, h, m, id => by
  match cs, h with
  | [], h => simp [packC] at h
  | c :: cs, h => cases c <;> simp [packC] at h
 | .slice t, cs, x, us, r, h, m, id => by
  match cs, h with
  | .nil :: r', h =>
   simp only [packC, Option.some.injEq, Prod.mk.injEq] at h; obtain ⟨rfl, rfl, rfl⟩ := h
   refine ⟨[(id, none, m.mine)], [.nil], rfl, rfl, rfl, fun q hq => ?_, fun β hb => ⟨⟨id, rfl, hb (id, _, m.mine) (List.mem_singleton.2 rfl)⟩, trivial⟩, fun q hq => ?_, rfl⟩
   · simp only [List.mem_singleton] at hq; subst hq; rfl
   · simp only [unpackC, List.mem_singleton] at hq; subst hq; exact ⟨t, [], rfl, .inl ⟨by simp, rfl⟩⟩
  | .sl o :: r', h =>
   simp only [packC] at h
   split at h
   · rename_i m0 ys hr; simp only [Option.some.injEq, Prod.mk.injEq] at h; obtain ⟨rfl, rfl, rfl⟩ := h
     refine ⟨[(id, some o, m.mine)], [.sl o], rfl, rfl, rfl, fun q hq => ?_, fun β hb => ⟨⟨id, rfl, hb (id, _, m.mine) (List.mem_singleton.2 rfl)⟩, trivial⟩, fun q hq => ?_, rfl⟩
     · simp only [List.mem_singleton] at hq; subst hq; rfl
     · simp only [unpackC, List.mem_singleton] at hq; subst hq; exact ⟨t, ys, rfl, .inr ⟨o, m0, by simp, zK hr, by simp⟩⟩
   · simp at h
 | .pair a b, cs, x, us, r, h, m, id => by
  simp only [packC] at h
  split at h
  · rename_i x1 us1 r1 h1
    split at h
    · rename_i x2 us2 r2 h2; simp only [Option.some.injEq, Prod.mk.injEq] at h; obtain ⟨rfl, rfl, rfl⟩ := h; obtain ⟨L1, c1, e1, i1, f1, m1, k1, n1, s1⟩ := zCn h1 m id; obtain ⟨L2, c2, e2, i2, f2, m2, k2, n2, s2⟩ := zCn h2 m (id + (unpackC m a x1 id).2.length)
      refine ⟨L1 ++ L2, c1 ++ c2, by rw [e1, e2, List.append_assoc], by simp only [unpackC, List.map_append, i1, i2], by simp only [List.filterMap_append, List.map_append, f1, f2], fun q hq => ?_, fun β hb => ?_, fun q hq => ?_, ?_⟩
      · exact (List.mem_append.1 hq).elim (m1 q) (m2 q)
      · obtain ⟨b1, b2⟩ := Names.has_append.1 hb; exact RelCs.append (k1 β b1) (k2 β b2)
      · simp only [unpackC, List.mem_append] at hq
        rcases hq with hq | hq
        · exact (n1 q hq).mono (fun q hq => by simp [hq]) (fun q hq => by simp [hq])
        · exact (n2 q hq).mono (fun q hq => by simp [hq]) (fun q hq => by simp [hq])
      · rw [s1, s2, List.map_append, List.append_assoc]
    · simp at h
  · simp at h
theorem kF {ob : Objs} {t : Ty} {w : W} {x : t.den} {us : List (Nat × Mode)} (h : packW ob t w = some (x, us)) (m : Mode) (id : Nat) :
  ∃ (L : NL), L.map (·.1) = (unpackW m t x id).2.map (·.1) ∧ L.filterMap (·.2.1) = us.map (·.1) ∧ (∀ q ∈ L, q.2.2 = m.mine) ∧
   (∀ β : Names, β.has L → RelW β w (unpackW m t x id).1) ∧ (∀ q ∈ (unpackW m t x id).2, RowNew ob L us m q.1 q.2) ∧ w.slices = L.map (·.2.1) := by
 cases t with
 | int k => cases w with
  | c c =>
   cases c <;> simp only [packW] at h <;> try (simp at h; done)
   split at h
   · rename_i hk; subst hk; simp only [Option.some.injEq, Prod.mk.injEq] at h; obtain ⟨rfl, rfl⟩ := h; exact ⟨[], rfl, rfl, fun q hq => by simp at hq, fun β _ => ⟨_, rfl, rfl⟩, fun q hq => by simp [unpackW] at hq, rfl⟩
   · simp at h
  | _ => simp [packW] at h
 | bool => cases w with
  | c c =>
   cases c <;> simp only [packW] at h <;> try (simp at h; done)
   simp only [Option.some.injEq, Prod.mk.injEq] at h; obtain ⟨rfl, rfl⟩ := h; exact ⟨[], rfl, rfl, fun q hq => by simp at hq, fun β _ => ⟨_, rfl, rfl⟩, fun q hq => by simp [unpackW] at hq, rfl⟩
  | _ => simp [packW] at h
 | arr k n =>
  cases w <;> simp only [packW] at h <;> try (simp at h; done)
  split at h
  · rename_i hk; obtain ⟨rfl, rfl⟩ := hk; simp only [Option.some.injEq, Prod.mk.injEq] at h; obtain ⟨rfl, rfl⟩ := h; exact ⟨[], rfl, rfl, fun q hq => by simp at hq, fun β _ => rfl, fun q hq => by simp [unpackW] at hq, rfl⟩
  · simp at h
 | barr n =>
  cases w <;> simp only [packW] at h <;> try (simp at h; done)
  split at h
  · rename_i hk; subst hk; simp only [Option.some.injEq, Prod.mk.injEq] at h; obtain ⟨rfl, rfl⟩ := h; exact ⟨[], rfl, rfl, fun q hq => by simp at hq, fun β _ => rfl, fun q hq => by simp [unpackW] at hq, rfl⟩
  · simp at h
 | slice t => cases w with
  | c c =>
   have hc : packC ob (.slice t) [c] = some (x, us, []) := by
    cases c with
    | nil => simp only [packW, Option.some.injEq, Prod.mk.injEq] at h; obtain ⟨rfl, rfl⟩ := h; rfl
    | sl o =>
     simp only [packW] at h; simp only [packC]
     split at h
     · rename_i m0 ys hr; simp only [Option.some.injEq, Prod.mk.injEq] at h; obtain ⟨rfl, rfl⟩ := h
       rfl
     · simp at h
    | _ => simp [packW] at h
   obtain ⟨L, c1, e1, i1, f1, m1, k1, n1, s1⟩ := zCn hc m id; simp only [List.append_nil] at e1; subst e1; exact ⟨L, i1, f1, m1, fun β hb => ⟨_, rfl, (k1 β hb).1⟩, n1, by
    simp only [W.slices]; rw [s1]; simp [C.slices]⟩
  | _ => simp [packW] at h
 | pair a b => cases w with
  | st cs =>
   simp only [packW] at h
   split at h
   · rename_i x1 us1 h1; simp only [Option.some.injEq, Prod.mk.injEq] at h; obtain ⟨rfl, rfl⟩ := h; obtain ⟨L, c1, e1, i1, f1, m1, k1, n1, s1⟩ := zCn h1 m id; simp only [List.append_nil] at e1; subst e1; exact ⟨L, i1, f1, m1, fun β hb => ⟨_, rfl, k1 β hb⟩, n1, by
      simp only [W.slices]; rw [s1]; simp [C.slices]⟩
   · simp at h
  | _ => simp [packW] at h
def ObjNew (ob : Objs) (β : Names) (p : Pack) (L : NL) (j : Nat) : Obj → Prop
 | .row m u xs => ((j, none, m.mine) ∈ L ∧ xs = []) ∨ ∃ o m0, (j, some o, m.mine) ∈ L ∧ ob o = some (.row m0 u xs) ∧ m0.le m = true ∧ (m = .own ∨ m = .sh ∨ (m = .ro ∧ o ∈ p.ro.map (·.1)))
 | .box m x => ∃ o m0 x0, (j, some o, m.mine) ∈ L ∧ ob o = some (.box m0 x0) ∧ m0.le m = true ∧ RelW β x0 x ∧ (m = .own ∨ (m = .ro ∧ o ∈ p.ro.map (·.1)))
 | .dead => False
def Named (ob : Objs) (p : Pack) (L : NL) (objs : List (Nat × Obj)) : Prop :=
 L.map (·.1) = objs.map (·.1) ∧ (∀ o, (minesOf L).count o = p.excl.count o) ∧ ∀ β : Names, β.has L → ∀ q ∈ objs, ObjNew ob β p L q.1 q.2
theorem ObjNew.mono {ob : Objs} {β : Names} {p p' : Pack} {L L' : NL} {j : Nat} {y : Obj} (h : ObjNew ob β p L j y) (h1 : ∀ q ∈ L, q ∈ L') (h2 : ∀ o ∈ p.ro.map (·.1), o ∈ p'.ro.map (·.1)) : ObjNew ob β p' L' j y := by
 cases y with
 | dead => exact h.elim
 | row m u xs =>
  rcases h with h | ⟨o, m0, g1, g2, g3, g4⟩
  · exact .inl ⟨h1 _ h.1, h.2⟩
  · exact .inr ⟨o, m0, h1 _ g1, g2, g3, g4.imp id (fun e => e.imp id (fun e => ⟨e.1, h2 o e.2⟩))⟩
 | box m x =>
  obtain ⟨o, m0, x0, g1, g2, g3, g4, g5⟩ := h; exact ⟨o, m0, x0, h1 _ g1, g2, g3, g4, g5.imp id (fun e => ⟨e.1, h2 o e.2⟩)⟩
theorem zQf (p q : Pack) (o : Nat) : (p.add q).excl.count o = p.excl.count o + q.excl.count o := by
 simp only [Pack.excl, Pack.mutIds, Pack.add, List.map_append, List.flatMap_append, List.count_append]; omega
theorem Named.add {ob : Objs} {p q : Pack} {L M : NL} {a b : List (Nat × Obj)} (h : Named ob p L a) (g : Named ob q M b) : Named ob (p.add q) (L ++ M) (a ++ b) := by
 obtain ⟨h1, h2, h3⟩ := h; obtain ⟨g1, g2, g3⟩ := g; refine ⟨by simp [h1, g1], fun o => by rw [zd, List.count_append, h2, g2, zQf], fun β hb r hr => ?_⟩; obtain ⟨b1, b2⟩ := Names.has_append.1 hb
 rcases List.mem_append.1 hr with hr | hr
 · exact (h3 β b1 r hr).mono (fun q hq => by simp [hq]) (fun o ho => by simp only [Pack.add, List.map_append, List.mem_append]; exact .inl ho)
 · exact (g3 β b2 r hr).mono (fun q hq => by simp [hq]) (fun o ho => by simp only [Pack.add, List.map_append, List.mem_append]; exact .inr ho)
theorem zBR {L : NL} (h : ∀ q ∈ L, q.2.2 = false) : minesOf L = [] := by
 simp only [minesOf, List.filterMap_eq_nil_iff]; intro q hq; simp [h q hq]
theorem zBd {L : NL} (h : ∀ q ∈ L, q.2.2 = true) : minesOf L = L.filterMap (·.2.1) := by
 unfold minesOf
 induction L with
 | nil => rfl
 | cons q L ih =>
  have := h q (by simp); simp only [List.filterMap_cons, this, if_true]; rw [ih (fun q hq => h q (by simp [hq]))]
section
variable {ob : Objs}
theorem zGe {t : Ty} {w : W} {p : Pack} (h : packRo ob t w = some p) (id : Nat) : ∃ x, p.tvs = [⟨t, x⟩] ∧ ∃ L, Named ob p L (unpackW .ro t x id).2 ∧ ∀ β : Names, β.has L → RelW β w (unpackW .ro t x id).1 := by
 unfold packRo at h
 split at h
 · rename_i x us hp; simp only [Option.some.injEq] at h; subst h; obtain ⟨L, i1, f1, m1, k1, n1, _⟩ := kF hp .ro id; refine ⟨x, rfl, L, ⟨i1, fun o => by rw [zBR m1]; rfl, fun β hb q hq => ?_⟩, k1⟩; obtain ⟨u, xs, e, h⟩ := n1 q hq; rw [e]; refine h.imp _root_.id (fun ⟨o, m0, g1, g2, g3⟩ => ⟨o, m0, g1, g2, by cases m0 <;> rfl, .inr (.inr ⟨rfl, List.mem_map_of_mem g3⟩)⟩)
 · simp at h
theorem zHh {t : Ty} {w : W} {x : t.den} {us : List (Nat × Mode)} (hp : packW ob t w = some (x, us)) (hc : us.all (fun p => p.2 = .own) = true) (p : Pack) (id : Nat) :
  ∃ L, L.map (·.1) = (unpackW .own t x id).2.map (·.1) ∧ minesOf L = us.map (·.1) ∧ (∀ β : Names, ∀ q ∈ (unpackW .own t x id).2, ObjNew ob β p L q.1 q.2) ∧ (∀ β : Names, β.has L → RelW β w (unpackW .own t x id).1) ∧ w.slices = L.map (·.2.1) := by
 obtain ⟨L, i1, f1, m1, k1, n1, s1⟩ := kF hp .own id; refine ⟨L, i1, by rw [zBd m1, f1], fun β q hq => ?_, k1, s1⟩; obtain ⟨u, xs, e, h⟩ := n1 q hq; rw [e]; refine h.imp _root_.id (fun ⟨o, m0, g1, g2, g3⟩ => ⟨o, m0, g1, g2, ?_, .inl rfl⟩); have : m0 = .own := by
  simp only [List.all_eq_true, decide_eq_true_eq] at hc; exact hc _ g3
 subst this
 rfl
theorem zFF {t : Ty} {w : W} {p : Pack} (h : packBox ob t w = some p) (id : Nat) :
  ∃ x, p.tvs = [⟨t, x⟩] ∧ ∃ L, Named ob p L ((id, .box .own (unpackW .own t x (id + 1)).1) :: (unpackW .own t x (id + 1)).2) ∧ ∀ β : Names, β.has L → RelW β w (.c (.ptr id 0 0 0)) := by
 unfold packBox at h
 split at h
 · rename_i o
   split at h
   · rename_i w hb
     split at h
     · rename_i x us hp
       split at h
       · rename_i hc; simp only [Option.some.injEq] at h; subst h; obtain ⟨L, i1, f1, n1, k1, _⟩ := zHh hp hc {} (id + 1)
         refine ⟨x, rfl, (id, some o, true) :: L, ⟨by simp [i1], fun o' => ?_, fun β hb' q hq => ?_⟩, fun β hb' => ⟨_, rfl, rfl, rfl, rfl, id, rfl, hb' (id, some o, _) (List.mem_cons_self ..)⟩⟩
         · have : minesOf ((id, some o, true) :: L) = o :: minesOf L := rfl; rw [this, f1]; simp only [Pack.excl, Pack.mutIds, List.flatMap_nil, List.append_nil, List.map_cons, List.map_nil, List.count_append, List.count_cons, List.count_nil]; omega
         · rcases List.mem_cons.1 hq with rfl | hq
           · exact ⟨o, .own, w, by simp [Mode.mine], hb, rfl, k1 β (fun q hq => hb' q (by simp [hq])), .inl rfl⟩
           · exact (n1 β q hq).mono (fun q hq => by simp [hq]) (fun o ho => by simp at ho)
       · simp at h
     · simp at h
   · simp at h
 · simp at h
theorem zMw {t : Ty} {w : W} {x : t.den} {us : List (Nat × Mode)} (hp : packW ob t w = some (x, us)) (hc : us.all (fun p => p.2 = .sh) = true) (p : Pack) (id : Nat) :
  ∃ L, L.map (·.1) = (unpackW .sh t x id).2.map (·.1) ∧ minesOf L = us.map (·.1) ∧ (∀ β : Names, ∀ q ∈ (unpackW .sh t x id).2, ObjNew ob β p L q.1 q.2) ∧ (∀ β : Names, β.has L → RelW β w (unpackW .sh t x id).1) ∧ w.slices = L.map (·.2.1) := by
 obtain ⟨L, i1, f1, m1, k1, n1, s1⟩ := kF hp .sh id; refine ⟨L, i1, by rw [zBd m1, f1], fun β q hq => ?_, k1, s1⟩; obtain ⟨u, xs, e, h⟩ := n1 q hq; rw [e]; refine h.imp _root_.id (fun ⟨o, m0, g1, g2, g3⟩ => ⟨o, m0, g1, g2, ?_, .inr (.inl rfl)⟩); have : m0 = .sh := by
  simp only [List.all_eq_true, decide_eq_true_eq] at hc; exact hc _ g3
 subst this
 rfl
theorem zIg {t : Ty} {w : W} {p : Pack} (h : packBoxR ob t w = some p) (id : Nat) :
  ∃ x, p.tvs = [⟨t, x⟩] ∧ ∃ L, Named ob p L ((id, .box .own (unpackW .ro t x (id + 1)).1) :: (unpackW .ro t x (id + 1)).2) ∧ ∀ β : Names, β.has L → RelW β w (.c (.ptr id 0 0 0)) := by
 unfold packBoxR at h
 split at h
 · rename_i o
   split at h
   · rename_i w hb
     split at h
     · rename_i x us hp; simp only [Option.some.injEq] at h; subst h; obtain ⟨L, i1, f1, m1, k1, n1, _⟩ := kF hp .ro (id + 1)
       refine ⟨x, rfl, (id, some o, true) :: L, ⟨by simp [i1], fun o' => ?_, fun β hb' q hq => ?_⟩, fun β hb' => ⟨_, rfl, rfl, rfl, rfl, id, rfl, hb' (id, some o, _) (List.mem_cons_self ..)⟩⟩
       · have : minesOf ((id, some o, true) :: L) = o :: minesOf L := rfl; rw [this, zBR m1]; simp [Pack.excl, Pack.mutIds]
       · rcases List.mem_cons.1 hq with rfl | hq
         · exact ⟨o, .own, w, by simp [Mode.mine], hb, rfl, k1 β (fun q hq => hb' q (by simp [hq])), .inl rfl⟩
         · obtain ⟨u, xs, e, h⟩ := n1 q hq; rw [e]; exact h.imp (fun e => ⟨by simp [e.1], e.2⟩) (fun ⟨o, m0, g1, g2, g3⟩ => ⟨o, m0, by simp [g1], g2, by cases m0 <;> rfl, .inr (.inr ⟨rfl, List.mem_map_of_mem g3⟩)⟩)
     · simp at h
   · simp at h
 · simp at h
theorem zE8 {t : Ty} {w : W} {p : Pack} (h : packRob ob t w = some p) (id : Nat) :
  ∃ x, p.tvs = [⟨t, x⟩] ∧ ∃ L, Named ob p L ((id, .box .ro (unpackW .ro t x (id + 1)).1) :: (unpackW .ro t x (id + 1)).2) ∧ ∀ β : Names, β.has L → RelW β w (.c (.ptr id 0 0 0)) := by
 unfold packRob at h
 split at h
 · rename_i o
   split at h
   · rename_i m w hb
     split at h
     · rename_i x us hp; simp only [Option.some.injEq] at h; subst h; obtain ⟨L, i1, f1, m1, k1, n1, _⟩ := kF hp .ro (id + 1)
       refine ⟨x, rfl, (id, some o, false) :: L, ⟨by simp [i1], fun o' => ?_, fun β hb' q hq => ?_⟩, fun β hb' => ⟨_, rfl, rfl, rfl, rfl, id, rfl, hb' (id, some o, _) (List.mem_cons_self ..)⟩⟩
       · rw [zBR (L := (id, some o, false) :: L) (fun q hq => by
          rcases List.mem_cons.1 hq with rfl | hq
          · rfl
          · exact m1 q hq)]
         rfl
       · rcases List.mem_cons.1 hq with rfl | hq
         · exact ⟨o, m, w, by simp [Mode.mine], hb, by cases m <;> rfl, k1 β (fun q hq => hb' q (by simp [hq])), .inr ⟨rfl, by simp⟩⟩
         · obtain ⟨u, xs, e, h⟩ := n1 q hq; rw [e]; refine h.imp (fun e => ⟨by simp [e.1], e.2⟩) (fun ⟨o, m0, g1, g2, g3⟩ => ⟨o, m0, by simp [g1], g2, by cases m0 <;> rfl, .inr (.inr ⟨rfl, ?_⟩)⟩); simp only [List.map_cons, List.mem_cons]; exact .inr (List.mem_map_of_mem g3)
     · simp at h
   · simp at h
 · simp at h
end
end Go.Ev
namespace Go.Ev
section
variable {ob : Objs}
def capInit : CK → (t : Ty) → t.den → Nat → W × List (Nat × Obj)
 | .val, t, x, id => unpackW .ro t x id
 | .rob, t, x, id => (W.c (.ptr id 0 0 0), (id, Obj.box .ro (unpackW .ro t x (id + 1)).1) :: (unpackW .ro t x (id + 1)).2)
 | .box, t, x, id => (W.c (.ptr id 0 0 0), (id, Obj.box .own (unpackW .own t x (id + 1)).1) :: (unpackW .own t x (id + 1)).2)
theorem zBZ (b : CK) (t : Ty) (r : List (CK × Ty)) (tvs : List TV) (p id : Nat) :
  unpackCaps ((b, t) :: r) tvs p id = ((capInit b t (getTV t tvs p) id).1 :: (unpackCaps r tvs (p + 1) (id + (capInit b t (getTV t tvs p) id).2.length)).1,
   (capInit b t (getTV t tvs p) id).2 ++ (unpackCaps r tvs (p + 1) (id + (capInit b t (getTV t tvs p) id).2.length)).2.1, (unpackCaps r tvs (p + 1) (id + (capInit b t (getTV t tvs p) id).2.length)).2.2) := by
 cases b <;> rfl
theorem zJh {b : CK} {t : Ty} {w : W} {p : Pack} (h : packCap ob t w b = some p) (id : Nat) : ∃ x, p.tvs = [⟨t, x⟩] ∧ ∃ L,
  Named ob p L (capInit b t x id).2 ∧ ∀ β : Names, β.has L → RelW β w (capInit b t x id).1 := by
 cases b with
 | val => exact zGe h id
 | rob => exact zE8 h id
 | box => exact zFF h id
theorem zED : ∀ {caps : List (CK × Ty)} {ws : List W} {p : Pack}, packCaps ob caps ws = some p → ∀ (l r : List TV) (id : Nat),
  ∃ ws' objs id', unpackCaps caps (l ++ p.tvs ++ r) l.length id = (ws', objs, l.length + p.tvs.length, id') ∧ ∃ L, Named ob p L objs ∧ ∀ β : Names, β.has L → RelWs β ws ws'
 | [], [], p, h, l, r, id => by
  simp only [packCaps, Option.some.injEq] at h; subst h; exact ⟨[], [], id, rfl, [], ⟨rfl, fun o => rfl, fun β _ q hq => by simp at hq⟩, fun β _ => trivial⟩
 | [], _ :: _, p, h, l, r, id => by simp [packCaps] at h
 | _ :: _, [], p, h, l, r, id => by simp [packCaps] at h
 | (b, t) :: caps, w :: ws, p, h, l, r, id => by
  simp only [packCaps] at h
  split at h
  · rename_i p1 p2 h1 h2; simp only [Option.some.injEq] at h; subst h; obtain ⟨x, e1, L1, n1, k1⟩ := zJh h1 id; obtain ⟨ws', objs, id', e2, L2, n2, k2⟩ := zED h2 (l ++ [⟨t, x⟩]) r (id + (capInit b t x id).2.length); have et : (p1.add p2).tvs = [⟨t, x⟩] ++ p2.tvs := by simp [Pack.add, e1]
    have e3 : l ++ (p1.add p2).tvs ++ r = l ++ [⟨t, x⟩] ++ (p2.tvs ++ r) := by rw [et]; simp
    have e4 : l ++ (p1.add p2).tvs ++ r = l ++ [⟨t, x⟩] ++ p2.tvs ++ r := by rw [et]; simp
    have e5 : getTV t (l ++ (p1.add p2).tvs ++ r) l.length = x := by rw [e3]; exact zO
    refine ⟨(capInit b t x id).1 :: ws', (capInit b t x id).2 ++ objs, id', ?_, L1 ++ L2, n1.add n2, fun β hb => ⟨k1 β (Names.has_append.1 hb).1, k2 β (Names.has_append.1 hb).2⟩⟩; rw [show l.length + (p1.add p2).tvs.length = (l ++ [(⟨t, x⟩ : TV)]).length + p2.tvs.length by rw [et]; simp; omega]; rw [zBZ, e5, show l.length + 1 = (l ++ [(⟨t, x⟩ : TV)]).length by simp, e4, e2]
  · simp at h
theorem zJj {k : PK} {v : V} {p : Pack} (h : packArg ob k v = some p) (l r : List TV) (id : Nat) :
  ∃ v' objs, k.init (l ++ p.tvs ++ r) l.length id = (v', objs, l.length + p.tvs.length) ∧ ∃ L, Named ob p L objs ∧ ∀ β : Names, β.has L → RelV β v v' := by
 cases k with
 | ro t => cases v with
  | w w =>
   obtain ⟨x, e, L, n, f⟩ := zGe h id; refine ⟨_, _, ?_, L, n, fun β hb => ⟨_, rfl, f β hb⟩⟩; rw [e]; simp only [PK.init, zO]
   rfl
  | _ => simp [packArg] at h
 | own t => cases v with
  | w w =>
   simp only [packArg] at h
   split at h
   · rename_i x us hp
     split at h
     · rename_i hc; simp only [Option.some.injEq] at h; subst h; obtain ⟨L, i1, f1, n1, k1, _⟩ := zHh hp hc { tvs := [⟨t, x⟩], gone := us.map (·.1) } id
       refine ⟨_, _, ?_, L, ⟨i1, fun o => ?_, fun β _ => n1 β⟩, fun β hb => ⟨_, rfl, k1 β hb⟩⟩
       · simp only [PK.init, zO]
         rfl
       · rw [f1]; simp [Pack.excl, Pack.mutIds]
     · simp at h
   · simp at h
  | _ => simp [packArg] at h
 | shs t => cases v with
  | w w =>
   simp only [packArg] at h
   split at h
   · rename_i x us hp
     split at h
     · rename_i hc; simp only [Option.some.injEq] at h; subst h; obtain ⟨L, i1, f1, n1, k1, _⟩ := zMw hp hc { tvs := [⟨t, x⟩], gone := us.map (·.1) } id
       refine ⟨_, _, ?_, L, ⟨i1, fun o => ?_, fun β _ => n1 β⟩, fun β hb => ⟨_, rfl, k1 β hb⟩⟩
       · simp only [PK.init, zO]
         rfl
       · rw [f1]; simp [Pack.excl, Pack.mutIds]
     · simp at h
   · simp at h
  | _ => simp [packArg] at h
 | «mut» t => cases v with
  | w w =>
   simp only [packArg] at h
   split at h
   · rename_i x us hp
     split at h
     · rename_i hc; simp only [Option.some.injEq] at h; subst h; obtain ⟨L, i1, f1, n1, k1, _⟩ := zHh hp hc { tvs := [⟨t, x⟩], muts := [(w.slices, .own, t)], order := [true] } id
       refine ⟨_, _, ?_, L, ⟨i1, fun o => ?_, fun β _ => n1 β⟩, fun β hb => ⟨_, rfl, k1 β hb⟩⟩
       · simp only [PK.init, zO]
         rfl
       · rw [f1]; simp [Pack.excl, Pack.mutIds, zBx hp]
     · simp at h
   · simp at h
  | _ => simp [packArg] at h
 | muts t => cases v with
  | w w =>
   simp only [packArg] at h
   split at h
   · rename_i x us hp
     split at h
     · rename_i hc; simp only [Option.some.injEq] at h; subst h; obtain ⟨L, i1, f1, n1, k1, _⟩ := zMw hp hc { tvs := [⟨t, x⟩], muts := [(w.slices, .sh, t)], order := [true] } id
       refine ⟨_, _, ?_, L, ⟨i1, fun o => ?_, fun β _ => n1 β⟩, fun β hb => ⟨_, rfl, k1 β hb⟩⟩
       · simp only [PK.init, zO]
         rfl
       · rw [f1]; simp [Pack.excl, Pack.mutIds, zBx hp]
     · simp at h
   · simp at h
  | _ => simp [packArg] at h
 | boxr t => cases v with
  | w w =>
   obtain ⟨x, e, L, n, f⟩ := zIg h id; refine ⟨_, _, ?_, L, n, fun β hb => ⟨_, rfl, f β hb⟩⟩; rw [e]; simp only [PK.init, zO]
   rfl
  | _ => simp [packArg] at h
 | rob t => cases v with
  | w w =>
   obtain ⟨x, e, L, n, f⟩ := zE8 h id; refine ⟨_, _, ?_, L, n, fun β hb => ⟨_, rfl, f β hb⟩⟩; rw [e]; simp only [PK.init, zO]
   rfl
  | _ => simp [packArg] at h
 | box t => cases v with
  | w w =>
   obtain ⟨x, e, L, n, f⟩ := zFF h id; refine ⟨_, _, ?_, L, n, fun β hb => ⟨_, rfl, f β hb⟩⟩; rw [e]; simp only [PK.init, zO]
   rfl
  | _ => simp [packArg] at h
 | fn f caps => cases v with
  | fn g ws =>
   simp only [packArg] at h
   split at h
   · rename_i hg; subst hg; obtain ⟨ws', objs, id', e, L, n, k⟩ := zED h l r id; refine ⟨_, _, ?_, L, n, fun β hb => ⟨_, rfl, k β hb⟩⟩; simp only [PK.init, e]
   · simp at h
  | _ => simp [packArg] at h
def RelVs (β : Names) : List V → List V → Prop
 | [], [] => True
 | v :: vs, u :: us => RelV β v u ∧ RelVs β vs us
 | _, _ => False
theorem zEH : ∀ {ks : List PK} {vs : List V} {p : Pack}, packArgs ob ks vs = some p → ∀ (l r : List TV) (i : Nat),
  ∃ vs' objs, initPs (l ++ p.tvs ++ r) ks i l.length = (vs', objs) ∧ ∃ L, Named ob p L objs ∧ ∀ β : Names, β.has L → RelVs β vs vs'
 | [], [], p, h, l, r, i => by
  simp only [packArgs, Option.some.injEq] at h; subst h; exact ⟨[], [], rfl, [], ⟨rfl, fun o => rfl, fun β _ q hq => by simp at hq⟩, fun β _ => trivial⟩
 | [], _ :: _, p, h, l, r, i => by simp [packArgs] at h
 | _ :: _, [], p, h, l, r, i => by simp [packArgs] at h
 | k :: ks, v :: vs, p, h, l, r, i => by
  simp only [packArgs] at h
  split at h
  · rename_i p1 p2 h1 h2; simp only [Option.some.injEq] at h; subst h; obtain ⟨v', o1, e1, L1, n1, k1⟩ := zJj h1 l (p2.tvs ++ r) (idOf i); obtain ⟨vs', o2, e2, L2, n2, k2⟩ := zEH h2 (l ++ p1.tvs) r (i + 1); refine ⟨v' :: vs', o1 ++ o2, ?_, L1 ++ L2, n1.add n2, fun β hb => ⟨k1 β (Names.has_append.1 hb).1, k2 β (Names.has_append.1 hb).2⟩⟩; have e3 : l ++ (p1.add p2).tvs ++ r = l ++ p1.tvs ++ (p2.tvs ++ r) := by simp [Pack.add]
    have e4 : l ++ (p1.add p2).tvs ++ r = l ++ p1.tvs ++ p2.tvs ++ r := by simp [Pack.add]
    simp only [initPs]; rw [show PK.init (l ++ (p1.add p2).tvs ++ r) l.length (idOf i) k = (v', o1, l.length + p1.tvs.length) by rw [e3]; exact e1]; simp only; rw [show l.length + p1.tvs.length = (l ++ p1.tvs).length by simp, e4, e2]
  · simp at h
theorem RelVs.len {β : Names} : ∀ {vs us : List V}, RelVs β vs us → vs.length = us.length
 | [], [], _ => rfl
 | _ :: _, _ :: _, h => by simp [RelVs.len h.2]
 | [], _ :: _, h => h.elim
 | _ :: _, [], h => h.elim
theorem RelVs.get {β : Names} : ∀ {vs us : List V}, RelVs β vs us → ∀ {i : Nat} {v u : V}, vs[i]? = some v → us[i]? = some u → RelV β v u
 | [], [], _, i, v, u, h1, _ => by simp at h1
 | _ :: _, _ :: _, h, 0, v, u, h1, h2 => by
  simp only [List.getElem?_cons_zero, Option.some.injEq] at h1 h2; subst h1; subst h2; exact h.1
 | _ :: _, _ :: _, h, i + 1, v, u, h1, h2 => RelVs.get h.2 (by simpa using h1) (by simpa using h2)
 | [], _ :: _, h, _, _, _, _, _ => h.elim
 | _ :: _, [], h, _, _, _, _, _ => h.elim
end
end Go.Ev
namespace Go.Ev
section
variable {w0 : World} {X Y0 : Nat → Prop} {fix : List (Nat × Value)} {s : St} {ρ : Locs} {col : Col} {a : Act} {w : World}
theorem zCM {α : Type} {f : α → Option Nat} {o : Nat} : ∀ {l : List α}, (l.filterMap f).Nodup → ∀ {i j : α}, i ∈ l → j ∈ l → f i = some o → f j = some o → i = j
 | [], _, i, j, hi, _, _, _ => by simp at hi
 | k :: l, h, i, j, hi, hj, fi, fj => by
  rw [List.filterMap_cons] at h
  rcases List.mem_cons.1 hi with rfl | hi'
  · rcases List.mem_cons.1 hj with rfl | hj'
    · rfl
    · rw [fi] at h; simp only [List.nodup_cons] at h; exact absurd (List.mem_filterMap.2 ⟨j, hj', fj⟩) h.1
  · rcases List.mem_cons.1 hj with rfl | hj'
    · rw [fj] at h; simp only [List.nodup_cons] at h; exact absurd (List.mem_filterMap.2 ⟨i, hi', fi⟩) h.1
    · refine zCM (l := l) ?_ hi' hj' fi fj
      cases hk : f k with
      | none => rw [hk] at h; exact h
      | some x => rw [hk] at h; exact (List.nodup_cons.1 h).2
theorem zFy {β : Type} {i : Nat} {x : β} : ∀ {l : List (Nat × β)}, (l.map (·.1)).Nodup → (i, x) ∈ l → l.lookup i = some x
 | [], _, h => by simp at h
 | (j, y) :: l, hn, h => by
  simp only [List.map_cons, List.nodup_cons] at hn; rw [List.lookup_cons]
  rcases List.mem_cons.1 h with e | h
  · simp only [Prod.mk.injEq] at e; obtain ⟨rfl, rfl⟩ := e; simp
  · have : i ≠ j := fun e => hn.1 (by rw [← e]; exact List.mem_map_of_mem h)
    have : (i == j) = false := by simpa using this
    rw [this]; exact zFy hn.2 h
theorem kp {β : Type} {i : Nat} {x : β} : ∀ {l : List (Nat × β)}, l.lookup i = some x → (i, x) ∈ l
 | [], h => by simp at h
 | (j, y) :: l, h => by
  rw [List.lookup_cons] at h
  split at h
  · rename_i e; simp only [Option.some.injEq] at h; subst h; rw [beq_iff_eq.1 e]; simp
  · exact List.mem_cons_of_mem _ (kp h)
theorem zHR {f : Objs} {i : Nat} {y : Obj} : ∀ {l : List (Nat × Obj)}, (l.map (·.1)).Nodup → (f.upds l i = some y) → (i, y) ∈ l ∨ (f i = some y ∧ i ∉ l.map (·.1))
 | [], _, h => .inr ⟨h, by simp⟩
 | (j, x) :: l, hn, h => by
  simp only [List.map_cons, List.nodup_cons] at hn; simp only [Objs.upds] at h
  rcases zHR hn.2 h with h | ⟨h1, h2⟩
  · exact .inl (by simp [h])
  · by_cases e : i = j
    · subst e; simp only [Objs.upd, if_true, Option.some.injEq] at h1; subst h1; exact .inl (by simp)
    · simp only [Objs.upd, if_neg e] at h1; exact .inr ⟨h1, by simp [e, h2]⟩
def gam (L : NL) (o : Nat) : Option Nat := (L.find? fun q => q.2.2 && (q.2.1 == some o)).map (·.1)
def colIn (col : Col) (L : NL) : Col := fun b => match col b with
 | some (o, 0) => (gam L o).map fun i => (i, 0)
 | _ => none
def yIn (col : Col) (Y : Nat → Prop) (p : Pack) (b : Nat) : Prop := RO col Y b ∨ ∃ o c, col b = some (o, c) ∧ o ∈ p.ids
theorem zHB {L : NL} {o i : Nat} (h : gam L o = some i) : (i, some o, true) ∈ L := by
 simp only [gam, Option.map_eq_some_iff] at h; obtain ⟨⟨j, x, m⟩, h1, rfl⟩ := h; have h2 := List.find?_some h1; simp only [Bool.and_eq_true, beq_iff_eq] at h2; obtain ⟨h3, h4⟩ := h2; subst h3; subst h4; exact List.mem_of_find?_eq_some h1
theorem mem_minesOf {L : NL} {o : Nat} : o ∈ minesOf L ↔ ∃ i, (i, some o, true) ∈ L := by
 simp only [minesOf, List.mem_filterMap]
 constructor
 · rintro ⟨⟨i, x, m⟩, h1, h2⟩
   cases m with
   | false => simp at h2
   | true => simp only [if_true] at h2; subst h2; exact ⟨i, h1⟩
 · rintro ⟨i, h⟩; exact ⟨_, h, rfl⟩
theorem zQd {L : NL} {p : Pack} (hn : p.excl.Nodup) (hc : ∀ o, (minesOf L).count o = p.excl.count o) {o i : Nat} (h : (i, some o, true) ∈ L) : gam L o = some i := by
 have hnd : (minesOf L).Nodup := by
  rw [List.nodup_iff_count]; intro o; rw [hc]; exact List.nodup_iff_count.1 hn o
 cases hg : gam L o with
 | none =>
  simp only [gam, Option.map_eq_none_iff, List.find?_eq_none] at hg; have := hg _ h; simp at this
 | some j =>
  have := zCM hnd (zHB hg) h rfl rfl; simp only [Prod.mk.injEq] at this; rw [this.1]
theorem zQc {L : NL} {p : Pack} (hc : ∀ o, (minesOf L).count o = p.excl.count o) {o : Nat} (h : o ∉ p.excl) : gam L o = none := by
 cases hg : gam L o with
 | none => rfl
 | some j =>
  have h1 : o ∈ minesOf L := mem_minesOf.2 ⟨j, zHB hg⟩; have h2 := List.count_pos_iff.2 h1; rw [hc] at h2; exact absurd (List.count_pos_iff.1 h2) h
theorem zO7 {p : Pack} (h : p.ok = true) : p.excl.Nodup ∧ ∀ o ∈ p.ro.map (·.1), o ∉ p.excl := by
 simp only [Pack.ok, Bool.and_eq_true, decide_eq_true_eq, List.all_eq_true, Bool.not_eq_true', List.contains_eq_mem, decide_eq_false_iff_not] at h; exact h
theorem zTl (h : Inv w0 X Y0 fix s ρ col a w) {fd : FD} {vs : List V} {xs : List Value} {p : Pack} (hp : packArgs s.ob fd.sig.params vs = some p) (hok : p.ok = true) (hfl : p.excl.all (flatAt s.ob) = true)
  (hx : xs.length = vs.length) (hv : ∀ (i : Nat) (v : V) (x : Value), vs[i]? = some v → xs[i]? = some x → VRel s.ob ρ v x) (hn : ((initPs p.tvs fd.sig.params 0 0).2.map (·.1)).Nodup) (hl : fd.sig.params.length ≤ fd.fn.ntmps)
  (fixC : List (Nat × Value)) (hfixC : ∀ q ∈ fixC, q.1 < xs.length ∧ xs.getD q.1 Go.undef = q.2) :
  ∃ (L : NL) (ρ1 : Locs) (objs : List (Nat × Obj)), Named s.ob p L objs ∧ (fd.init p.tvs).ob = Objs.none.upds objs ∧ (objs.map (·.1)).Nodup ∧ (∀ q ∈ L, ρ1 q.1 = (match q.2.1 with | some o => ρ o | none => ⟨none, 0, 0⟩)) ∧
   Inv w (fun b => colIn col L b ≠ none) (yIn col (Yof w0 X Y0) p) fixC (fd.init p.tvs) ρ1 (colIn col L) ⟨xs.toArray ++ Array.replicate (fd.fn.ntmps - xs.length) undef, []⟩ w := by
 obtain ⟨vs', objs, e, L, hL, hR⟩ := zEH hp [] [] 0; simp only [List.nil_append, List.append_nil, List.length_nil] at e; rw [e] at hn; simp only at hn; have hinit : fd.init p.tvs = ⟨vs' ++ List.replicate (fd.fn.ntmps - vs'.length) .undef, Objs.none.upds objs⟩ := by simp only [FD.init, e]
 have hLn : (L.map (·.1)).Nodup := by rw [hL.1]; exact hn
 let β : Names := fun i => (L.lookup i).map (·.1)
 have hβ : β.has L := fun q hq => by
  have := zFy hLn hq; simp only [β, this, Option.map_some]
 have hRel := hR β hβ; have hlen := hRel.len; obtain ⟨hok1, hok2⟩ := zO7 hok; have hcount := hL.2.1; have hobn : ∀ i, β i ≠ none → (Objs.none.upds objs) i ≠ none := by
  intro i hi; refine zFp ?_; rw [← hL.1]
  cases hlk : L.lookup i with
  | none => simp [β, hlk] at hi
  | some x => exact List.mem_map_of_mem (kp hlk)
 have hlp : fd.sig.params.length = vs'.length := by
  have : ∀ (ks : List PK) (vs : List V) (p : Pack), packArgs s.ob ks vs = some p → ks.length = vs.length := by
   intro ks
   induction ks with
   | nil => intro vs p h; cases vs <;> simp_all [packArgs]
   | cons k ks ih =>
    intro vs p h
    cases vs with
    | nil => simp [packArgs] at h
    | cons v vs =>
     simp only [packArgs] at h
     split at h
     · rename_i h2; simp [ih _ _ h2]
     · simp at h
  rw [this _ _ _ hp, hlen]
 refine ⟨L, β.loc ρ, objs, hL, by rw [hinit], hn, fun q hq => ?_, ?_⟩
 · have := hβ q hq; simp only [Names.loc, this]
   cases q.2.1 <;> rfl
 rw [hinit]
 refine ⟨rfl, by simp; omega, ?_, ?_, ?_, fun b _ _ => rfl, Nat.le_refl _, ?_, Like.refl w⟩
 · intro i v hi; rw [List.getElem?_append] at hi
   split at hi
   · rename_i hil; have hix : i < xs.length := by omega
     have hiv : i < vs.length := by omega
     have hr := hRel.get (List.getElem?_eq_getElem hiv) hi; have hxx := hv i _ _ (List.getElem?_eq_getElem hiv) (List.getElem?_eq_getElem hix); have : (xs.toArray ++ Array.replicate (fd.fn.ntmps - xs.length) undef).getD i Go.undef = xs[i] := by
      simp [Array.getD_eq_getD_getElem?, Array.getElem?_append, hix]
     simp only [this]; exact RelV.rel (fun _ _ => rfl) hobn hr hxx
   · rw [List.getElem?_replicate] at hi
     split at hi
     · simp only [Option.some.injEq] at hi; exact .inl hi.symm
     · simp at hi
 · intro i y hy; rcases zHR hn hy with hm | ⟨hm, _⟩
   case inr => simp [Objs.none] at hm
   have hnew := hL.2.2 β hβ _ hm
   have mv : ∀ {o x}, (i, some o, y.mine) ∈ L → s.ob o = some x → Moves (Objs.none.upds objs) ρ (β.loc ρ) x y → (y.own = true ∨ y.mine = true ∨ (y.own = false ∧ y.mine = false ∧ o ∈ p.ro.map (·.1))) → (y.own = true → y.mine = true) →
     ObjRel (Objs.none.upds objs) (β.loc ρ) (colIn col L) (Yof w (fun b => colIn col L b ≠ none) (yIn col (Yof w0 X Y0) p)) w i y := by
    intro o x hq hx hmv hright hmine; have hbi : β i = some (some o) := hβ _ hq; have hexcl : y.mine = true → o ∈ p.excl := fun e => by
     have h1 : o ∈ minesOf L := mem_minesOf.2 ⟨i, by rw [← e]; exact hq⟩; have h2 := List.count_pos_iff.2 h1; rw [hcount] at h2; exact List.count_pos_iff.1 h2
    have hids : y.own = false → o ∈ p.ids := fun e => by
     rcases hright with g | g | ⟨_, _, g⟩
     · rw [g] at e; simp at e
     · simp only [Pack.ids, List.mem_append]; exact .inr (hexcl g)
     · simp only [Pack.ids, List.mem_append]; exact .inl g
    refine (h.objs o x hx).move hmv (by simp only [Names.loc, hbi]) (fun hm b hb => ?_) (fun t zs ht hnf b k hb => ?_) (fun he b hb => ?_) (fun he b k hb => ?_) (fun _ he hm b hb => ?_)
    · have := zQd hok1 hcount (by rw [← hm]; exact hq); simp only [colIn, hb, this, Option.map_some]
    · have hm : y.mine = true := by rw [ht]; rfl
      have hf := (List.all_eq_true.1 hfl) o (hexcl hm); unfold flatAt at hf; rw [hx] at hf; subst ht
      cases hmv with
      | @row m0 _ _ _ hle =>
       have : m0 = .own := by cases m0 <;> simp_all [Mode.le]
       subst this; simp [hnf] at hf
    · refine ⟨.inl ?_, .inl (.inl hb)⟩; rcases hb.1 with e | ⟨o', k, e⟩ <;> simp only [colIn, e]
    · exact ⟨.inl (by simp only [colIn, hb]), .inl (.inr ⟨o, k + 1, hb, hids he⟩)⟩
    · have ho : o ∉ p.excl := by
       rcases hright with g | g | ⟨_, _, g⟩
       · rw [g] at he; simp at he
       · rw [g] at hm; simp at hm
       · exact hok2 o g
      have := zQc hcount ho; exact ⟨.inl (by simp only [colIn, hb, this, Option.map_none]), .inl (.inr ⟨o, 0, hb, hids he⟩)⟩
   cases y with
   | dead => trivial
   | row m u zs =>
    rcases hnew with ⟨hq, rfl⟩ | ⟨o, m0, hq, hx, hle, hr⟩
    · exact ObjRel.nil (by simp only [Names.loc, hβ _ hq])
    · refine mv hq hx (.row hle) ?_ ?_
      · rcases hr with rfl | rfl | ⟨rfl, hr⟩
        · exact .inl rfl
        · exact .inr (.inl rfl)
        · exact .inr (.inr ⟨rfl, rfl, hr⟩)
      · intro e; rcases hr with rfl | rfl | ⟨rfl, _⟩
        · rfl
        · rfl
        · simp [Obj.own] at e
   | box m z =>
    obtain ⟨o, m0, x0, hq, hx, hle, hrel, hr⟩ := hnew; have hwf : wfW s.ob ρ x0 := by obtain ⟨_, _, _, g, _⟩ := h.objs o _ hx; exact g
    obtain ⟨g1, g2, _⟩ := RelW.val (ob := s.ob) (ρ := ρ) (ρ' := β.loc ρ) (fun _ _ => rfl) hobn hrel hwf
    refine mv hq hx (.box hle g1 g2) ?_ ?_
    · rcases hr with rfl | ⟨rfl, hr⟩
      · exact .inl rfl
      · exact .inr (.inr ⟨rfl, rfl, hr⟩)
    · intro e; rcases hr with rfl | ⟨rfl, _⟩
      · rfl
      · simp [Obj.own] at e
 · intro b i c hb
   refine ⟨.inr (by rw [hb]; simp), ?_, ?_⟩
   · simp only [colIn] at hb
     split at hb
     · rename_i o ho; exact (h.cold b o 0 ho).2.1
     · simp at hb
   · simp only [colIn] at hb
     split at hb
     · rename_i o ho; rw [Option.map_eq_some_iff] at hb; obtain ⟨j, hj, hb⟩ := hb; simp only [Prod.mk.injEq] at hb; obtain ⟨rfl, rfl⟩ := hb; exact hobn j (by rw [hβ _ (zHB hj)]; simp)
     · simp at hb
 · intro q hq; obtain ⟨h1, h2⟩ := hfixC q hq; refine ⟨by simp; omega, ?_⟩; rw [← h2]; simp [Array.getD_eq_getD_getElem?, Array.getElem?_append, h1]
end
end Go.Ev
namespace Go.Ev
def OutNew (ob : Objs) (β : Names) (B : List (Nat × Nat)) (L : NL) (i : Nat) : Obj → Prop
 | .row m u xs => ((i, none, m.mine) ∈ L ∧ xs = []) ∨ ∃ o m0, (i, some o, m.mine) ∈ L ∧ ob o = some (.row m0 u xs) ∧ m0.le m = true
 | .box m x => m = .own ∧ ((∃ o x0, (i, some o, true) ∈ L ∧ ob o = some (.box .own x0) ∧ RelW β x0 x) ∨ ∃ o x0, (i, o) ∈ B ∧ ob o = some (.box .own x0) ∧ RelW β x0 x)
 | .dead => False
theorem OutNew.mono {ob : Objs} {β : Names} {B B' : List (Nat × Nat)} {L L' : NL} {i : Nat} {y : Obj} (h : OutNew ob β B L i y) (h1 : ∀ q ∈ L, q ∈ L') (h2 : ∀ q ∈ B, q ∈ B') : OutNew ob β B' L' i y := by
 cases y with
 | dead => exact h.elim
 | row m u xs =>
  rcases h with h | ⟨o, m0, g1, g2, g3⟩
  · exact .inl ⟨h1 _ h.1, h.2⟩
  · exact .inr ⟨o, m0, h1 _ g1, g2, g3⟩
 | box m x =>
  obtain ⟨rfl, ⟨o, x0, g1, g2, g3⟩ | ⟨o, x0, g1, g2, g3⟩⟩ := h
  · exact ⟨rfl, .inl ⟨o, x0, h1 _ g1, g2, g3⟩⟩
  · exact ⟨rfl, .inr ⟨o, x0, h2 _ g1, g2, g3⟩⟩
section
variable {ob : Objs}
theorem kl {t : Ty} {w : W} {p : Pack} (h : packBox ob t w = some p) : ∃ o x0 x us, w = .c (.ptr o 0 0 0) ∧ ob o = some (.box .own x0) ∧ packW ob t x0 = some (x, us) ∧ us.all (fun p => p.2 = .own) = true ∧
  p = { tvs := [⟨t, x⟩], gone := us.map (·.1), boxes := [(o, .own, t)], order := [false] } := by
 unfold packBox at h
 split at h
 · rename_i o
   split at h
   · rename_i x0 hb
     split at h
     · rename_i x us hp
       split at h
       · rename_i hc; simp only [Option.some.injEq] at h; exact ⟨o, x0, x, us, rfl, hb, hp, hc, h.symm⟩
       · simp at h
     · simp at h
   · simp at h
 · simp at h
theorem kQ {t : Ty} {w : W} {p : Pack} (h : packBoxR ob t w = some p) : ∃ o x0 x us, w = .c (.ptr o 0 0 0) ∧ ob o = some (.box .own x0) ∧ packW ob t x0 = some (x, us) ∧
  p = { tvs := [⟨t, x⟩], ro := us, boxes := [(o, .ro, t)], order := [false] } := by
 unfold packBoxR at h
 split at h
 · rename_i o
   split at h
   · rename_i x0 hb
     split at h
     · rename_i x us hp; simp only [Option.some.injEq] at h; exact ⟨o, x0, x, us, rfl, hb, hp, h.symm⟩
     · simp at h
   · simp at h
 · simp at h
theorem zRG {t : Ty} {w : W} {x : t.den} {us : List (Nat × Mode)} (hp : packW ob t w = some (x, us)) (id : Nat) :
  ∃ L : NL, L.map (·.1) = (unpackW .ro t x id).2.map (·.1) ∧ (∀ q ∈ L, q.2.2 = false) ∧ (∀ i o, (i, some o, false) ∈ L → o ∈ us.map (·.1)) ∧ (∀ β : Names, ∀ q ∈ (unpackW .ro t x id).2, OutNew ob β [] L q.1 q.2) ∧ (∀ β : Names, β.has L → RelW β w (unpackW .ro t x id).1) := by
 obtain ⟨L, i1, f1, m1, k1, n1, s1⟩ := kF hp .ro id
 refine ⟨L, i1, m1, fun i o hq => ?_, fun β q hq => ?_, k1⟩
 · rw [← f1]; exact List.mem_filterMap.2 ⟨_, hq, rfl⟩
 · obtain ⟨u, xs, e, h⟩ := n1 q hq; rw [e]; exact h.imp _root_.id (fun ⟨o, m0, g1, g2, g3⟩ => ⟨o, m0, g1, g2, by cases m0 <;> rfl⟩)
theorem zSr {t : Ty} {w : W} {x : t.den} {us : List (Nat × Mode)} (hp : packW ob t w = some (x, us)) (hc : us.all (fun p => p.2 = .sh) = true) (id : Nat) :
  ∃ L : NL, L.map (·.1) = (unpackW .sh t x id).2.map (·.1) ∧ minesOf L = us.map (·.1) ∧ (∀ q ∈ L, q.2.2 = true) ∧ w.slices = L.map (·.2.1) ∧
   (∀ q ∈ (unpackW .sh t x id).2, ∃ u xs, q.2 = .row .sh u xs ∧ (((q.1, none, true) ∈ L ∧ xs = []) ∨ ∃ o, (q.1, some o, true) ∈ L ∧ ob o = some (.row .sh u xs))) := by
 obtain ⟨L, i1, f1, m1, k1, n1, s1⟩ := kF hp .sh id; have own : ∀ o m0, (o, m0) ∈ us → m0 = .sh := by
  intro o m0 h; simp only [List.all_eq_true, decide_eq_true_eq] at hc; exact hc _ h
 refine ⟨L, i1, by rw [zBd m1, f1], m1, s1, fun q hq => ?_⟩; obtain ⟨u, xs, e, h⟩ := n1 q hq; refine ⟨u, xs, e, h.imp _root_.id (fun ⟨o, m0, g1, g2, g3⟩ => ⟨o, g1, ?_⟩)⟩; rw [own o m0 g3] at g2; exact g2
theorem zLs {t : Ty} {w : W} {x : t.den} {us : List (Nat × Mode)} (hp : packW ob t w = some (x, us)) (hc : us.all (fun p => p.2 = .own) = true) (id : Nat) :
  ∃ L : NL, L.map (·.1) = (unpackW .own t x id).2.map (·.1) ∧ minesOf L = us.map (·.1) ∧ (∀ q ∈ L, q.2.2 = true) ∧ (∀ β : Names, ∀ q ∈ (unpackW .own t x id).2, OutNew ob β [] L q.1 q.2) ∧ (∀ β : Names, β.has L → RelW β w (unpackW .own t x id).1) ∧
   w.slices = L.map (·.2.1) ∧ (∀ q ∈ (unpackW .own t x id).2, ∃ u xs, q.2 = .row .own u xs ∧ (((q.1, none, true) ∈ L ∧ xs = []) ∨ ∃ o, (q.1, some o, true) ∈ L ∧ ob o = some (.row .own u xs))) := by
 obtain ⟨L, i1, f1, m1, k1, n1, s1⟩ := kF hp .own id; have own : ∀ o m0, (o, m0) ∈ us → m0 = .own := by
  intro o m0 h; simp only [List.all_eq_true, decide_eq_true_eq] at hc; exact hc _ h
 refine ⟨L, i1, by rw [zBd m1, f1], m1, fun β q hq => ?_, k1, s1, fun q hq => ?_⟩
 · obtain ⟨u, xs, e, h⟩ := n1 q hq; rw [e]; refine h.imp _root_.id (fun ⟨o, m0, g1, g2, g3⟩ => ⟨o, m0, g1, g2, ?_⟩); rw [own o m0 g3]
   rfl
 · obtain ⟨u, xs, e, h⟩ := n1 q hq; refine ⟨u, xs, e, h.imp _root_.id (fun ⟨o, m0, g1, g2, g3⟩ => ⟨o, g1, ?_⟩)⟩; rw [own o m0 g3] at g2; exact g2
def resInit : (rs : Mode × Bool × Ty) → rs.2.2.den → Nat → W × List (Nat × Obj)
 | (m, false, t), x, id => unpackW m t x id
 | (m, true, t), x, id => (W.c (.ptr id 0 0 0), (id, Obj.box .own (unpackW m t x (id + 1)).1) :: (unpackW m t x (id + 1)).2)
theorem zIb (rs : Mode × Bool × Ty) (r : List (Mode × Bool × Ty)) (outs : List TV) (pos id : Nat) :
  unpackRes (rs :: r) outs pos id = ((resInit rs (getTV rs.2.2 outs pos) id).1 :: (unpackRes r outs (pos + 1) (id + (resInit rs (getTV rs.2.2 outs pos) id).2.length)).1,
   (resInit rs (getTV rs.2.2 outs pos) id).2 ++ (unpackRes r outs (pos + 1) (id + (resInit rs (getTV rs.2.2 outs pos) id).2.length)).2.1, (unpackRes r outs (pos + 1) (id + (resInit rs (getTV rs.2.2 outs pos) id).2.length)).2.2) := by
 obtain ⟨m, ptr, t⟩ := rs
 cases ptr <;> rfl
theorem zIf {rs : Mode × Bool × Ty} {w : W} {tvs : List TV} {mines ros : List Nat} (h : packRes1 ob rs w = some (tvs, mines, ros)) (id : Nat) :
  ∃ x, tvs = [⟨rs.2.2, x⟩] ∧ ∃ w' objs, resInit rs x id = (w', objs) ∧
   ∃ L : NL, L.map (·.1) = objs.map (·.1) ∧ (∀ o, (minesOf L).count o ≤ mines.count o) ∧ (∀ i o, (i, some o, false) ∈ L → o ∈ ros) ∧ (∀ β : Names, β.has L → RelW β w w' ∧ ∀ q ∈ objs, OutNew ob β [] L q.1 q.2) ∧ (rs.1 = .own → ∀ q ∈ objs, q.2.own = true) := by
 obtain ⟨m, ptr, t⟩ := rs
 cases ptr with
 | false =>
  simp only [packRes1] at h
  split at h
  · rename_i x us hp
    split at h
    · rename_i hc; simp only [Option.some.injEq, Prod.mk.injEq] at h; obtain ⟨rfl, rfl, rfl⟩ := h; obtain ⟨L, i1, f1, m1, k1, n1, _⟩ := kF hp m id
      refine ⟨x, rfl, _, _, rfl, L, i1, fun o => ?_, fun i o hq => ?_, fun β hb => ⟨k1 β hb, fun q hq => ?_⟩, fun e q hq => ?_⟩
      · cases hm : m.mine with
        | true => rw [zBd (fun q hq => by rw [m1 q hq, hm]), f1]; simp
        | false => rw [zBR (fun q hq => by rw [m1 q hq, hm])]; simp
      · have := m1 _ hq; simp only at this; rw [← this]; simp only [Bool.false_eq_true, if_false]; rw [← f1]; exact List.mem_filterMap.2 ⟨_, hq, rfl⟩
      · obtain ⟨u, xs, e, h⟩ := n1 q hq; rw [e]; refine h.imp _root_.id (fun ⟨o, m0, g1, g2, g3⟩ => ⟨o, m0, g1, g2, ?_⟩); simp only [List.all_eq_true] at hc; exact hc _ g3
      · obtain ⟨u, xs, e', h⟩ := n1 q hq; simp only at e; rw [e', e]
        rfl
    · simp at h
  · simp at h
 | true =>
  cases m with
  | sh => simp [packRes1] at h
  | ro =>
   simp only [packRes1] at h
   split at h
   · rename_i p hp; simp only [Option.some.injEq, Prod.mk.injEq] at h; obtain ⟨rfl, rfl, rfl⟩ := h; obtain ⟨o, x0, x, us, rfl, hb, hpw, rfl⟩ := kQ hp; obtain ⟨L, i1, m1, r1, n1, k1⟩ := zRG hpw (id + 1)
     refine ⟨x, rfl, _, _, rfl, (id, some o, true) :: L, by simp [i1], fun o' => ?_, fun i o hq => ?_, fun β hb' => ⟨⟨_, rfl, rfl, rfl, rfl, id, rfl, hb' (id, some o, true) (List.mem_cons_self ..)⟩, fun q hq => ?_⟩, fun e q hq => ?_⟩
     · have : minesOf ((id, some o, true) :: L) = o :: minesOf L := rfl; rw [this, zBR m1]; simp
     · rcases List.mem_cons.1 hq with e | hq
       · simp at e
       · exact r1 i o hq
     · rcases List.mem_cons.1 hq with rfl | hq
       · exact ⟨rfl, .inl ⟨o, x0, by simp, hb, k1 β (fun q hq => hb' q (by simp [hq]))⟩⟩
       · exact (n1 β q hq).mono (fun q hq => by simp [hq]) (fun q hq => hq)
     · simp at e
   · simp at h
  | own =>
   simp only [packRes1] at h
   split at h
   · rename_i p hp; simp only [Option.some.injEq, Prod.mk.injEq] at h; obtain ⟨rfl, rfl, rfl⟩ := h; obtain ⟨o, x0, x, us, rfl, hb, hpw, hc, rfl⟩ := kl hp; obtain ⟨L, i1, f1, m1, n1, k1, _, own1⟩ := zLs hpw hc (id + 1)
     refine ⟨x, rfl, _, _, rfl, (id, some o, true) :: L, by simp [i1], fun o' => ?_, fun i o hq => ?_, fun β hb' => ⟨⟨_, rfl, rfl, rfl, rfl, id, rfl, hb' (id, some o, true) (List.mem_cons_self ..)⟩, fun q hq => ?_⟩, fun e q hq => ?_⟩
     · have : minesOf ((id, some o, true) :: L) = o :: minesOf L := rfl; rw [this, f1]; simp only [List.map_cons, List.map_nil, List.count_append, List.count_cons, List.count_nil]; omega
     · rcases List.mem_cons.1 hq with e | hq
       · simp at e
       · have := m1 _ hq; simp at this
     · rcases List.mem_cons.1 hq with rfl | hq
       · exact ⟨rfl, .inl ⟨o, x0, by simp, hb, k1 β (fun q hq => hb' q (by simp [hq]))⟩⟩
       · exact (n1 β q hq).mono (fun q hq => by simp [hq]) (fun q hq => hq)
     · rcases List.mem_cons.1 hq with rfl | hq
       · rfl
       · obtain ⟨u, xs, e', _⟩ := own1 q hq; rw [e']
         rfl
   · simp at h
theorem zFB : ∀ {rs : List (Mode × Bool × Ty)} {ws : List W} {tvs : List TV} {mines ros : List Nat}, packRes ob rs ws = some (tvs, mines, ros) → ∀ (l r : List TV) (id : Nat),
  ∃ ws' objs id', unpackRes rs (l ++ tvs ++ r) l.length id = (ws', objs, id') ∧ tvs.length = rs.length ∧ ∃ L : NL, L.map (·.1) = objs.map (·.1) ∧ (∀ o, (minesOf L).count o ≤ mines.count o) ∧ (∀ i o, (i, some o, false) ∈ L → o ∈ ros) ∧
   (∀ β : Names, β.has L → RelWs β ws ws' ∧ ∀ q ∈ objs, OutNew ob β [] L q.1 q.2) ∧ (rs.all (fun x => x.1 = .own) = true → ∀ q ∈ objs, q.2.own = true)
 | [], [], tvs, mines, ros, h, l, r, id => by
  simp only [packRes, Option.some.injEq, Prod.mk.injEq] at h; obtain ⟨rfl, rfl, rfl⟩ := h; exact ⟨[], [], id, rfl, rfl, [], rfl, fun o => by simp [minesOf], fun i o h => by simp at h, fun β _ => ⟨trivial, fun q hq => by simp at hq⟩, fun _ q hq => by simp at hq⟩
 | [], _ :: _, tvs, mines, ros, h, l, r, id => by simp [packRes] at h
 | _ :: _, [], tvs, mines, ros, h, l, r, id => by simp [packRes] at h
 | (m, ptr, t) :: rs, w :: ws, tvs, mines, ros, h, l, r, id => by
  simp only [packRes] at h
  split at h
  · rename_i x1 u1 v1 x2 u2 v2 h1 h2; simp only [Option.some.injEq, Prod.mk.injEq] at h; obtain ⟨rfl, rfl, rfl⟩ := h; obtain ⟨x, rfl, w', o1, e1, L1, i1, c1, r1, k1, w1⟩ := zIf h1 id; obtain ⟨ws', o2, id', e2, len2, L2, i2, c2, r2, k2, w2⟩ := zFB h2 (l ++ [⟨t, x⟩]) r (id + o1.length)
    refine ⟨w' :: ws', o1 ++ o2, id', ?_, by simp [len2], L1 ++ L2, by simp [i1, i2], fun o => ?_, fun i o hq => ?_, fun β hb => ?_, fun ha q hq => ?_⟩
    · have e3 : l ++ ([(⟨t, x⟩ : TV)] ++ x2) ++ r = l ++ [⟨t, x⟩] ++ (x2 ++ r) := by simp
      have e4 : l ++ ([(⟨t, x⟩ : TV)] ++ x2) ++ r = l ++ [⟨t, x⟩] ++ x2 ++ r := by simp
      have e5 : getTV t (l ++ ([(⟨t, x⟩ : TV)] ++ x2) ++ r) l.length = x := by rw [e3]; exact zO
      rw [zIb]; simp only at e1 e5 ⊢; rw [e5, e1, show l.length + 1 = (l ++ [(⟨t, x⟩ : TV)]).length by simp, e4, e2]
    · rw [zd, List.count_append, List.count_append]; have := c1 o; have := c2 o; omega
    · rcases List.mem_append.1 hq with hq | hq
      · exact List.mem_append.2 (.inl (r1 i o hq))
      · exact List.mem_append.2 (.inr (r2 i o hq))
    · obtain ⟨b1, b2⟩ := Names.has_append.1 hb; refine ⟨⟨(k1 β b1).1, (k2 β b2).1⟩, fun q hq => ?_⟩
      rcases List.mem_append.1 hq with hq | hq
      · exact ((k1 β b1).2 q hq).mono (fun q hq => by simp [hq]) (fun q hq => hq)
      · exact ((k2 β b2).2 q hq).mono (fun q hq => by simp [hq]) (fun q hq => hq)
    · simp only [List.all_cons, Bool.and_eq_true, decide_eq_true_eq] at ha
      rcases List.mem_append.1 hq with hq | hq
      · exact w1 ha.1 q hq
      · exact w2 ha.2 q hq
  · simp at h
end
def locOf (ρ : Locs) : Option Nat → Loc
 | some o => ρ o
 | none => ⟨none, 0, 0⟩
theorem zJD {ρ ρ' : Locs} {c d : C} {t : Ty} (hc : (c = .nil ∨ ∃ o, c = .sl o)) (hd : (d = .nil ∨ ∃ o, d = .sl o)) (h : cval ρ c = cval ρ' d) :
  (∃ x, C.slices [c] = [x] ∧ ∃ y, C.slices [d] = [y] ∧ locOf ρ x = locOf ρ' y) := by
 rcases hc with rfl | ⟨o, rfl⟩ <;> rcases hd with rfl | ⟨o', rfl⟩
 · exact ⟨none, rfl, none, rfl, rfl⟩
 · refine ⟨none, rfl, some o', rfl, ?_⟩; simp only [cval, Value.slice.injEq] at h; simp only [locOf]; obtain ⟨h1, h2, h3⟩ := h
   cases hl : ρ' o' with
   | mk ad le ca =>
    rw [hl] at h1 h2 h3; simp only at h1 h2 h3; rw [← h1, ← h2, ← h3]
 · refine ⟨some o, rfl, none, rfl, ?_⟩; simp only [cval, Value.slice.injEq] at h; simp only [locOf]; obtain ⟨h1, h2, h3⟩ := h
   cases hl : ρ o with
   | mk ad le ca =>
    rw [hl] at h1 h2 h3; simp only at h1 h2 h3; rw [h1, h2, h3]
 · refine ⟨some o, rfl, some o', rfl, ?_⟩; simp only [cval, Value.slice.injEq] at h; simp only [locOf]; obtain ⟨h1, h2, h3⟩ := h
   cases hl : ρ o with
   | mk ad le ca =>
    cases hl' : ρ' o' with
    | mk ad' le' ca' =>
     rw [hl, hl'] at h1 h2 h3; simp only at h1 h2 h3; rw [h1, h2, h3]
def Aligned (ρ ρ' : Locs) : List (Option Nat) → List (Option Nat) → Prop
 | [], [] => True
 | x :: xs, y :: ys => locOf ρ x = locOf ρ' y ∧ Aligned ρ ρ' xs ys
 | _, _ => False
theorem Aligned.append {ρ ρ' : Locs} : ∀ {a b c d : List (Option Nat)}, Aligned ρ ρ' a b → Aligned ρ ρ' c d → Aligned ρ ρ' (a ++ c) (b ++ d)
 | [], [], _, _, _, h => h
 | _ :: _, _ :: _, _, _, h, g => ⟨h.1, Aligned.append h.2 g⟩
 | [], _ :: _, _, _, h, _ => h.elim
 | _ :: _, [], _, _, h, _ => h.elim
theorem zFx {ob : Objs} {t : Ty} {cs : List C} {x : List t.den} {us : List (Nat × Mode)} {r : List C} (h : packC ob (.slice t) cs = some (x, us, r)) : ∃ c, cs = c :: r ∧ (c = .nil ∨ ∃ o, c = .sl o) := by
 match cs, h with
 | .nil :: r', h =>
  simp only [packC, Option.some.injEq, Prod.mk.injEq] at h; exact ⟨.nil, by rw [h.2.2], .inl rfl⟩
 | .sl o :: r', h =>
  simp only [packC] at h
  split at h
  · simp only [Option.some.injEq, Prod.mk.injEq] at h; exact ⟨.sl o, by rw [h.2.2], .inr ⟨o, rfl⟩⟩
  · simp at h
theorem zET {ob ob' : Objs} {ρ ρ' : Locs} : ∀ {t : Ty} {cs cs' : List C} {x x' : t.den} {us us' : List (Nat × Mode)} {r r' : List C}, packC ob t cs = some (x, us, r) → packC ob' t cs' = some (x', us', r') →
  cs.map (cval ρ) = cs'.map (cval ρ') → r.map (cval ρ) = r'.map (cval ρ') ∧ ∃ S S', C.slices cs = S ++ C.slices r ∧ C.slices cs' = S' ++ C.slices r' ∧ Aligned ρ ρ' S S'
 | .int k, cs, cs', x, x', us, us', r, r', h, h', hm => by
  match cs, cs', h, h' with
  | .int k1 n1 :: q, .int k2 n2 :: q', h, h' =>
   simp only [packC] at h h'; split at h <;> split at h' <;> simp_all
   obtain ⟨_, _, rfl⟩ := h; obtain ⟨_, _, rfl⟩ := h'; exact ⟨[], rfl, [], rfl, trivial⟩
 | .bool, cs, cs', x, x', us, us', r, r', h, h', hm => by
  match cs, cs', h, h' with
  | .bool b1 :: q, .bool b2 :: q', h, h' =>
   simp only [packC, Option.some.injEq, Prod.mk.injEq] at h h'; obtain ⟨_, _, rfl⟩ := h; obtain ⟨_, _, rfl⟩ := h'; simp only [List.map_cons, List.cons.injEq] at hm; exact ⟨hm.2, [], [], rfl, rfl, trivial⟩
 | .arr k m', cs, cs', x, x', us, us', r, r', h, h', hm => by
  match cs, h with
  | [], h => simp [packC] at h
  | c :: cs, h => cases c <;> simp [packC] at h
 | .barr m', cs, cs', x, x', us, us', r, r', h, h', hm => by
  match cs, h with
  | [], h => simp [packC] at h
  | c :: cs, h => cases c <;> simp [packC] at h
 | .slice t, cs, cs', x, x', us, us', r, r', h, h', hm => by
  obtain ⟨c, rfl, hc⟩ := zFx h; obtain ⟨d, rfl, hd⟩ := zFx h'; simp only [List.map_cons, List.cons.injEq] at hm; obtain ⟨y, e1, z, e2, e3⟩ := zJD (t := t) hc hd hm.1
  refine ⟨hm.2, [y], [z], ?_, ?_, e3, trivial⟩
  · rcases hc with rfl | ⟨o, rfl⟩ <;> simp_all [C.slices]
  · rcases hd with rfl | ⟨o, rfl⟩ <;> simp_all [C.slices]
 | .pair a b, cs, cs', x, x', us, us', r, r', h, h', hm => by
  simp only [packC] at h h'
  split at h
  · rename_i x1 us1 r1 h1
    split at h
    · rename_i x2 us2 r2 h2
      split at h'
      · rename_i y1 vs1 q1 g1
        split at h'
        · rename_i y2 vs2 q2 g2; simp only [Option.some.injEq, Prod.mk.injEq] at h h'; obtain ⟨_, _, rfl⟩ := h; obtain ⟨_, _, rfl⟩ := h'; obtain ⟨m1, S1, T1, a1, b1, c1⟩ := zET h1 g1 hm; obtain ⟨m2, S2, T2, a2, b2, c2⟩ := zET h2 g2 m1; exact ⟨m2, S1 ++ S2, T1 ++ T2, by rw [a1, a2, List.append_assoc], by rw [b1, b2, List.append_assoc], c1.append c2⟩
        · simp at h'
      · simp at h'
    · simp at h
  · simp at h
theorem zHe {ob ob' : Objs} {ρ ρ' : Locs} {t : Ty} {w w' : W} {x x' : t.den} {us us' : List (Nat × Mode)} (h : packW ob t w = some (x, us)) (h' : packW ob' t w' = some (x', us')) (hm : wval ρ w = wval ρ' w') : Aligned ρ ρ' w.slices w'.slices := by
 cases t with
 | int k => cases w with
  | c c => cases w' with
   | c c' => cases c <;> cases c' <;> simp_all [packW, W.slices, C.slices, Aligned]
   | _ => simp [packW] at h'
  | _ => simp [packW] at h
 | bool => cases w with
  | c c => cases w' with
   | c c' => cases c <;> cases c' <;> simp_all [packW, W.slices, C.slices, Aligned]
   | _ => simp [packW] at h'
  | _ => simp [packW] at h
 | arr k n => cases w <;> cases w' <;> simp_all [packW, W.slices, Aligned]
 | barr n => cases w <;> cases w' <;> simp_all [packW, W.slices, Aligned]
 | slice t => cases w with
  | c c => cases w' with
   | c c' =>
    have hc : c = .nil ∨ ∃ o, c = .sl o := by cases c <;> simp_all [packW]
    have hd : c' = .nil ∨ ∃ o, c' = .sl o := by cases c' <;> simp_all [packW]
    obtain ⟨y, e1, z, e2, e3⟩ := zJD (t := t) hc hd hm; simp only [W.slices, e1, e2]; exact ⟨e3, trivial⟩
   | _ => simp [packW] at h'
  | _ => simp [packW] at h
 | pair a b => cases w with
  | st cs => cases w' with
   | st cs' =>
    simp only [packW] at h h'
    split at h
    · rename_i x1 us1 h1
      split at h'
      · rename_i x2 us2 h2; have hmm : cs.map (cval ρ) = cs'.map (cval ρ') := by simpa [wval, wcells] using hm
        obtain ⟨_, S, S', e1, e2, e3⟩ := zET h1 h2 hmm; simp only [W.slices, e1, e2, C.slices, List.append_nil]; exact e3
      · simp at h'
    · simp at h
   | _ => simp [packW] at h'
  | _ => simp [packW] at h
theorem zHg {ob : Objs} : ∀ {t : Ty} {cs : List C} {x : t.den} {us : List (Nat × Mode)} {r : List C}, packC ob t cs = some (x, us, r) → cs.length = t.cells + r.length
 | .int k, cs, x, us, r, h => by
  match cs, h with
  | .int k1 n1 :: q, h =>
   simp only [packC] at h
   split at h
   · simp only [Option.some.injEq, Prod.mk.injEq] at h; rw [← h.2.2]; simp [Ty.cells]; omega
   · simp at h
 | .bool, cs, x, us, r, h => by
  match cs, h with
  | .bool b1 :: q, h =>
   simp only [packC, Option.some.injEq, Prod.mk.injEq] at h; rw [← h.2.2]; simp [Ty.cells]; omega
 | .arr k m', cs, x, us, r, h => by
  match cs, h with
  | [], h => simp [packC] at h
  | c :: cs, h => cases c <;> simp [packC] at h
 | .barr m', cs, x, us, r, h => by
  match cs, h with
  | [], h => simp [packC] at h
  | c :: cs, h => cases c <;> simp [packC] at h
 | .slice t, cs, x, us, r, h => by
  obtain ⟨c, rfl, _⟩ := zFx h; simp [Ty.cells]; omega
 | .pair a b, cs, x, us, r, h => by
  simp only [packC] at h
  split at h
  · rename_i x1 us1 r1 h1
    split at h
    · rename_i x2 us2 r2 h2; simp only [Option.some.injEq, Prod.mk.injEq] at h; have := zHg h1; have := zHg h2; rw [← h.2.2]; simp only [Ty.cells]; omega
    · simp at h
  · simp at h
theorem zE7 {ob ob' : Objs} {ρ : Locs} {t : Ty} {w : W} {x : t.den} {us : List (Nat × Mode)} (h : packW ob t w = some (x, us)) (hw : wfW ob' ρ w) : (wcells ρ w).length = t.cells := by
 cases t with
 | int k => cases w with
  | c c => rfl
  | _ => simp [packW] at h
 | bool => cases w with
  | c c => rfl
  | _ => simp [packW] at h
 | arr k n => cases w <;> simp_all [packW, wcells, Ty.cells, wfW]
 | barr n => cases w <;> simp_all [packW, wcells, Ty.cells, wfW]
 | slice t => cases w with
  | c c => rfl
  | _ => simp [packW] at h
 | pair a b => cases w with
  | st cs =>
   simp only [packW] at h
   split at h
   · rename_i x1 us1 h1; have := zHg h1; simpa [wcells] using this
   · simp at h
  | _ => simp [packW] at h
end Go.Ev
namespace Go.Ev
def Pos (M : Mode) (ob : Objs) : NL → List (Nat × Obj) → Prop
 | [], [] => True
 | (_, x, _) :: L, (_, y) :: os => (∃ u xs, y = .row M u xs ∧ ((x = none ∧ xs = []) ∨ ∃ o, x = some o ∧ ob o = some (.row M u xs))) ∧ Pos M ob L os
 | _, _ => False
theorem zO0 {M : Mode} {ob : Objs} : ∀ {L : NL} {os : List (Nat × Obj)}, L.map (·.1) = os.map (·.1) → (L.map (·.1)).Nodup →
  (∀ q ∈ os, ∃ u xs, q.2 = .row M u xs ∧ (((q.1, none, true) ∈ L ∧ xs = []) ∨ ∃ o, (q.1, some o, true) ∈ L ∧ ob o = some (.row M u xs))) → Pos M ob L os
 | [], [], _, _, _ => trivial
 | [], _ :: _, h, _, _ => by simp at h
 | _ :: _, [], h, _, _ => by simp at h
 | (j, x, m) :: L, (j', y) :: os, h, hn, hq => by
  simp only [List.map_cons, List.cons.injEq] at h; simp only [List.map_cons, List.nodup_cons] at hn; obtain ⟨rfl, h⟩ := h; have hd : ∀ x', (j, x', true) ∈ (j, x, m) :: L → x' = x := by
   intro x' hm
   rcases List.mem_cons.1 hm with e | hm
   · simp only [Prod.mk.injEq] at e; exact e.2.1
   · exact absurd (List.mem_map_of_mem (f := (·.1)) hm) hn.1
  refine ⟨?_, zO0 h hn.2 (fun q hm => ?_)⟩
  · obtain ⟨u, xs, e, g⟩ := hq (j, y) (by simp); refine ⟨u, xs, e, g.imp (fun g => ⟨(hd _ g.1).symm, g.2⟩) (fun ⟨o, g1, g2⟩ => ⟨o, (hd _ g1).symm, g2⟩)⟩
  · obtain ⟨u, xs, e, g⟩ := hq q (by simp [hm]); have hne : q.1 ≠ j := by
     intro e; have := List.mem_map_of_mem (f := (·.1)) hm; rw [← h, e] at this; exact hn.1 this
    have tl : ∀ x', (q.1, x', true) ∈ (j, x, m) :: L → (q.1, x', true) ∈ L := by
     intro x' hm
     rcases List.mem_cons.1 hm with e | hm
     · simp only [Prod.mk.injEq] at e; exact absurd e.1 hne
     · exact hm
    exact ⟨u, xs, e, g.imp (fun g => ⟨tl _ g.1, g.2⟩) (fun ⟨o, g1, g2⟩ => ⟨o, tl _ g1, g2⟩)⟩
theorem zG5 {M : Mode} (hM : M.mine = true) {ob : Objs} {ρ0 ρ1 : Locs} : ∀ {S : List (Option Nat)} {L0 : NL} {os : List (Nat × Obj)}, Aligned ρ0 ρ1 S (L0.map (·.2.1)) → (∀ q ∈ L0, q.2.2 = true) → Pos M ob L0 os →
  ∃ L : NL, L.map (·.1) = (putBack S os).map (·.1) ∧ (putBack S os).map (·.1) = S.filterMap id ∧ (∀ o, (minesOf L).count o ≤ (minesOf L0).count o) ∧ (∀ q ∈ L, q.2.2 = true) ∧ (∀ q ∈ L, ρ0 q.1 = locOf ρ1 q.2.1) ∧
   ∀ β : Names, ∀ q ∈ putBack S os, OutNew ob β [] L q.1 q.2 ∧ (M = .own → q.2.own = true)
 | [], [], [], _, _, _ => ⟨[], rfl, rfl, fun o => Nat.le_refl _, fun q h => by simp at h, fun q h => by simp at h, fun β q h => by simp [putBack] at h⟩
 | [], [], _ :: _, _, _, h => h.elim
 | [], _ :: _, _, h, _, _ => h.elim
 | _ :: _, [], _, h, _, _ => h.elim
 | _ :: _, (_, _, _) :: _, [], _, _, h => h.elim
 | none :: S, (j, x, m) :: L0, (j', y) :: os, ha, hm, hp => by
  obtain ⟨L, e1, e2, e3, e4, e5, e6⟩ := zG5 hM (S := S) (L0 := L0) (os := os) ha.2 (fun q hq => hm q (by simp [hq])) hp.2; refine ⟨L, e1, by simpa [putBack] using e2, fun o => ?_, e4, e5, e6⟩; have h1 := e3 o; have : (minesOf L0).count o ≤ (minesOf ((j, x, m) :: L0)).count o := by
   have : (j, x, m) :: L0 = [(j, x, m)] ++ L0 := rfl; rw [this, zd, List.count_append]; omega
  omega
 | some o :: S, (j, x, m) :: L0, (j', y) :: os, ha, hm, hp => by
  obtain ⟨L, e1, e2, e3, e4, e5, e6⟩ := zG5 hM (S := S) (L0 := L0) (os := os) ha.2 (fun q hq => hm q (by simp [hq])) hp.2; have hmt : m = true := hm (j, x, m) (by simp); subst hmt
  refine ⟨(o, x, true) :: L, by simp [putBack, e1], by simpa [putBack] using e2, fun o' => ?_, fun q hq => ?_, fun q hq => ?_, fun β q hq => ?_⟩
  · have h1 := e3 o'; have a1 : (o, x, true) :: L = [(o, x, true)] ++ L := rfl; have a2 : (j, x, true) :: L0 = [(j, x, true)] ++ L0 := rfl; have a3 : minesOf [(o, x, true)] = minesOf [(j, x, true)] := rfl; rw [a1, a2, zd, zd, List.count_append, List.count_append, a3]; omega
  · rcases List.mem_cons.1 hq with rfl | hq
    · rfl
    · exact e4 q hq
  · rcases List.mem_cons.1 hq with rfl | hq
    · exact ha.1
    · exact e5 q hq
  · simp only [putBack, List.mem_cons] at hq
    rcases hq with rfl | hq
    · obtain ⟨u, xs, rfl, g⟩ := hp.1
      rcases g with ⟨rfl, rfl⟩ | ⟨o', rfl, g⟩
      · exact ⟨.inl ⟨by simp [hM], rfl⟩, fun e => by rw [e]; rfl⟩
      · exact ⟨.inr ⟨o', M, by simp [hM], g, by cases M <;> rfl⟩, fun e => by rw [e]; rfl⟩
    · exact ⟨(e6 β q hq).1.mono (fun q hq => by simp [hq]) (fun q hq => hq), (e6 β q hq).2⟩
def Pack.loud (p : Pack) : Bool := p.muts.any (fun m => decide (m.2.1 ≠ .own)) || p.boxes.any (fun b => decide (b.2.1 ≠ .own))
theorem Pack.loud_add {p q : Pack} : (p.add q).loud = (p.loud || q.loud) := by
 simp only [Pack.loud, Pack.add, List.any_append]
 cases p.muts.any _ <;> cases q.muts.any _ <;> cases p.boxes.any _ <;> cases q.boxes.any _ <;> rfl
def BackOk (ob : Objs) (ρ0 ρ1 : Locs) (p : Pack) (tvs : List TV) (mines ros : List Nat) : Prop :=
 ∀ (l r : List TV) (id : Nat) (o2 : List Bool) (m2 : List (List (Option Nat) × Mode × Ty)) (x2 : List (Nat × Mode × Ty)), ∃ b1 b2,
  unpackBack (p.order ++ o2) (p.muts ++ m2) (p.boxes ++ x2) (l ++ tvs ++ r) l.length id =
   (b1 ++ (unpackBack o2 m2 x2 (l ++ tvs ++ r) (l.length + tvs.length) (id + b2.length)).1, b2 ++ (unpackBack o2 m2 x2 (l ++ tvs ++ r) (l.length + tvs.length) (id + b2.length)).2) ∧
  ∃ (L : NL) (B : List (Nat × Nat)), (∀ j, (L.map (·.1)).count j + (B.map (·.1)).count j = (b1.map (·.1)).count j + (b2.map (·.1)).count j) ∧ (∀ o, (minesOf L).count o + (B.map (·.2)).count o ≤ mines.count o) ∧ (∀ i o, (i, some o, false) ∈ L → o ∈ ros) ∧
   (∀ j, (b1.map (·.1)).count j = (p.mutIds ++ p.boxes.map (·.1)).count j) ∧ (∀ q ∈ L, q.1 ∈ b2.map (·.1) ∨ (q.1 ∈ p.mutIds ∧ ρ0 q.1 = locOf ρ1 q.2.1)) ∧
   (∀ q ∈ B, q.1 ∈ p.boxes.map (·.1) ∧ (ρ0 q.1).addr = (ρ1 q.2).addr ∧ (ρ0 q.1).len = (ρ1 q.2).len) ∧ ∀ β : Names, β.has L → ∀ q ∈ b1 ++ b2, OutNew ob β B L q.1 q.2 ∧ (p.loud = false → q.2.own = true)
section
variable {ob ob0 : Objs} {ρ0 ρ1 : Locs}
theorem BackOk.nil {p : Pack} (h1 : p.order = []) (h2 : p.muts = []) (h3 : p.boxes = []) : BackOk ob ρ0 ρ1 p [] [] [] := by
 intro l r id o2 m2 x2; refine ⟨[], [], by simp [h1, h2, h3], [], [], fun j => rfl, fun o => Nat.le_refl _, fun i o h => by simp at h, fun j => by simp [Pack.mutIds, h2, h3], fun q h => by simp at h, fun q h => by simp at h, fun β _ q h => by simp at h⟩
theorem BackOk.add {p q : Pack} {xs ys : List TV} {m n ro ro' : List Nat} (h : BackOk ob ρ0 ρ1 p xs m ro) (g : BackOk ob ρ0 ρ1 q ys n ro') : BackOk ob ρ0 ρ1 (p.add q) (xs ++ ys) (m ++ n) (ro ++ ro') := by
 intro l r id o2 m2 x2; obtain ⟨b1, b2, e, L, B, h1, h2, h3, h4, h5, h6, h7⟩ := h l (ys ++ r) id (q.order ++ o2) (q.muts ++ m2) (q.boxes ++ x2); obtain ⟨c1, c2, e', L', B', g1, g2, g3, g4, g5, g6, g7⟩ := g (l ++ xs) r (id + b2.length) o2 m2 x2; have e1 : l ++ (xs ++ ys) ++ r = l ++ xs ++ (ys ++ r) := by simp
 have e2 : l ++ (xs ++ ys) ++ r = l ++ xs ++ ys ++ r := by simp
 have e3 : (l ++ xs).length = l.length + xs.length := by simp
 refine ⟨b1 ++ c1, b2 ++ c2, ?_, L ++ L', B ++ B', fun j => ?_, fun o => ?_, fun i o hq => List.mem_append.2 ((List.mem_append.1 hq).imp (h3 i o) (g3 i o)), fun j => ?_, fun r hr => ?_, fun r hr => ?_, fun β hb r hr => ?_⟩
 · have a : unpackBack ((p.add q).order ++ o2) ((p.add q).muts ++ m2) ((p.add q).boxes ++ x2) (l ++ (xs ++ ys) ++ r) l.length id = unpackBack (p.order ++ (q.order ++ o2)) (p.muts ++ (q.muts ++ m2)) (p.boxes ++ (q.boxes ++ x2)) (l ++ xs ++ (ys ++ r)) l.length id := by
    rw [e1]; simp [Pack.add]
   have e12 : l ++ xs ++ ys ++ r = l ++ xs ++ (ys ++ r) := by simp
   rw [e12, e3] at e'; rw [a, e, e', e1]; simp [Nat.add_assoc]
 · have := h1 j; have := g1 j; simp only [List.map_append, List.count_append]; omega
 · have := h2 o; have := g2 o; rw [zd]; simp only [List.map_append, List.count_append]; omega
 · have := h4 j; have := g4 j; simp only [Pack.mutIds, Pack.add, List.map_append, List.flatMap_append, List.count_append] at *; omega
 · rcases List.mem_append.1 hr with hr | hr
   · rcases h5 r hr with k | ⟨k, k2⟩
     · exact .inl (by simp only [List.map_append, List.mem_append]; exact .inl k)
     · exact .inr ⟨by simp only [Pack.mutIds, Pack.add, List.flatMap_append, List.mem_append] at k ⊢; exact .inl k, k2⟩
   · rcases g5 r hr with k | ⟨k, k2⟩
     · exact .inl (by simp only [List.map_append, List.mem_append]; exact .inr k)
     · exact .inr ⟨by simp only [Pack.mutIds, Pack.add, List.flatMap_append, List.mem_append] at k ⊢; exact .inr k, k2⟩
 · rcases List.mem_append.1 hr with hr | hr
   · obtain ⟨k, k2⟩ := h6 r hr; exact ⟨by simp only [Pack.add, List.map_append, List.mem_append]; exact .inl k, k2⟩
   · obtain ⟨k, k2⟩ := g6 r hr; exact ⟨by simp only [Pack.add, List.map_append, List.mem_append]; exact .inr k, k2⟩
 · obtain ⟨hb1, hb2⟩ := Names.has_append.1 hb; have hm : r ∈ b1 ++ b2 ∨ r ∈ c1 ++ c2 := by
    simp only [List.mem_append] at hr ⊢
    rcases hr with (hr | hr) | (hr | hr)
    · exact .inl (.inl hr)
    · exact .inr (.inl hr)
    · exact .inl (.inr hr)
    · exact .inr (.inr hr)
   rcases hm with hm | hm
   · exact ⟨(h7 β hb1 r hm).1.mono (fun q hq => by simp [hq]) (fun q hq => by simp [hq]), fun e => (h7 β hb1 r hm).2 (by rw [Pack.loud_add] at e; exact (Bool.or_eq_false_iff.1 e).1)⟩
   · exact ⟨(g7 β hb2 r hm).1.mono (fun q hq => by simp [hq]) (fun q hq => by simp [hq]), fun e => (g7 β hb2 r hm).2 (by rw [Pack.loud_add] at e; exact (Bool.or_eq_false_iff.1 e).2)⟩
theorem zQ3 {t : Ty} {w w' : W} {x0 x : t.den} {us0 us : List (Nat × Mode)} (h0 : packW ob0 t w = some (x0, us0)) (h1 : packW ob t w' = some (x, us)) (hc : us.all (fun p => p.2 = .own) = true) (hv : wval ρ0 w = wval ρ1 w') {p : Pack}
  (ho : p.order = [true]) (hm : p.muts = [(w.slices, .own, t)]) (hb : p.boxes = []) : BackOk ob ρ0 ρ1 p [⟨t, x⟩] (us.map (·.1)) [] := by
 intro l r id o2 m2 x2; obtain ⟨L0, i1, f1, m1, n1, k1, s1, pos1⟩ := zLs h1 hc 0; have hal := zHe h0 h1 hv; rw [s1] at hal; have hnd : (L0.map (·.1)).Nodup := by
  rw [i1, kC, kD]; exact List.nodup_range'
 obtain ⟨L, e1, e2, e3, e4, e5, e6⟩ := zG5 (M := .own) rfl hal m1 (zO0 i1 hnd pos1)
 refine ⟨putBack w.slices (unpackW .own t x 0).2, [], ?_, L, [], fun j => by rw [e1]; simp, fun o => ?_, fun i o hq => by have := e4 _ hq; simp at this, fun j => ?_, fun q hq => .inr ⟨?_, e5 q hq⟩, fun q h => by simp at h, fun β _ q hq => ⟨(e6 β q (by simpa using hq)).1, fun _ => (e6 β q (by simpa using hq)).2 rfl⟩⟩
 · rw [ho, hm, hb]; simp only [List.cons_append, List.nil_append, unpackBack]; rw [show getTV t (l ++ [⟨t, x⟩] ++ r) l.length = x from zO]; simp
 · have := e3 o; rw [f1] at this; simpa using this
 · rw [e2]; simp [Pack.mutIds, hm, hb]
 · have : q.1 ∈ L.map (·.1) := List.mem_map_of_mem hq; rw [e1, e2] at this; simpa [Pack.mutIds, hm] using this
theorem zP8 {t : Ty} {w w' : W} {x0 x : t.den} {us0 us : List (Nat × Mode)} (h0 : packW ob0 t w = some (x0, us0)) (h1 : packW ob t w' = some (x, us)) (hc : us.all (fun p => p.2 = .sh) = true) (hv : wval ρ0 w = wval ρ1 w') {p : Pack}
  (ho : p.order = [true]) (hm : p.muts = [(w.slices, .sh, t)]) (hb : p.boxes = []) : BackOk ob ρ0 ρ1 p [⟨t, x⟩] (us.map (·.1)) [] := by
 intro l r id o2 m2 x2; obtain ⟨L0, i1, f1, m1, s1, pos1⟩ := zSr h1 hc 0; have hal := zHe h0 h1 hv; rw [s1] at hal; have hnd : (L0.map (·.1)).Nodup := by
  rw [i1, kC, kD]; exact List.nodup_range'
 obtain ⟨L, e1, e2, e3, e4, e5, e6⟩ := zG5 (M := .sh) rfl hal m1 (zO0 i1 hnd pos1)
 refine ⟨putBack w.slices (unpackW .sh t x 0).2, [], ?_, L, [], fun j => by rw [e1]; simp, fun o => ?_, fun i o hq => by have := e4 _ hq; simp at this, fun j => ?_, fun q hq => .inr ⟨?_, e5 q hq⟩, fun q h => by simp at h, fun β _ q hq => ⟨(e6 β q (by simpa using hq)).1, fun e => by simp [Pack.loud, hm] at e⟩⟩
 · rw [ho, hm, hb]; simp only [List.cons_append, List.nil_append, unpackBack]; rw [show getTV t (l ++ [⟨t, x⟩] ++ r) l.length = x from zO]; simp
 · have := e3 o; rw [f1] at this; simpa using this
 · rw [e2]; simp [Pack.mutIds, hm, hb]
 · have : q.1 ∈ L.map (·.1) := List.mem_map_of_mem hq; rw [e1, e2] at this; simpa [Pack.mutIds, hm] using this
theorem zNS {t : Ty} {w w' : W} {p pf : Pack} (h0 : packBox ob0 t w = some p) (h1 : packBox ob t w' = some pf) (hv : wval ρ0 w = wval ρ1 w') (hw : wfW ob0 ρ0 w) (hw' : wfW ob ρ1 w')
  (H0 : ∀ o m x, ob0 o = some (.box m x) → wfW ob0 ρ0 x ∧ (ρ0 o).len = (wcells ρ0 x).length) (H1 : ∀ o m x, ob o = some (.box m x) → wfW ob ρ1 x ∧ (ρ1 o).len = (wcells ρ1 x).length) :
  BackOk ob ρ0 ρ1 p pf.tvs (pf.gone ++ pf.boxes.map (·.1)) [] := by
 obtain ⟨o, x0, x, us, rfl, hb, hp, hc, rfl⟩ := kl h0; obtain ⟨o', x0', x', us', rfl, hb', hp', hc', rfl⟩ := kl h1; intro l r id o2 m2 x2; obtain ⟨L, i1, f1, m1, n1, k1, s1, pos1⟩ := zLs hp' hc' id
 refine ⟨[(o, .box .own (unpackW .own t x' id).1)], (unpackW .own t x' id).2, ?_, L, [(o, o')], fun j => by rw [i1]; simp; omega, fun q => ?_, fun i o hq => by have := m1 _ hq; simp at this, fun j => by simp [Pack.mutIds], fun q hq => .inl ?_, fun q hq => ?_, fun β hβ q hq => ?_⟩
 · simp only [List.cons_append, List.nil_append, unpackBack]; rw [show getTV t (l ++ [⟨t, x'⟩] ++ r) l.length = x' from zO]; simp
 · rw [f1]; simp only [List.map_cons, List.map_nil, List.count_append]; omega
 · rw [← i1]; exact List.mem_map_of_mem hq
 · simp only [List.mem_singleton] at hq; subst hq; obtain ⟨_, ⟨b, off, g2⟩, _⟩ := hw; obtain ⟨_, ⟨b', off', g2'⟩, _⟩ := hw'; simp only [wval, cval, zA2 g2, zA2 g2'] at hv; obtain ⟨a1, a2⟩ := H0 o _ _ hb; obtain ⟨a1', a2'⟩ := H1 o' _ _ hb'
   refine ⟨by simp, ?_, ?_⟩
   · rw [g2, g2']; simpa using hv
   · rw [a2, a2', zE7 hp a1, zE7 hp' a1']
 · simp only [List.cons_append, List.nil_append, List.mem_cons] at hq
   rcases hq with rfl | hq
   · exact ⟨⟨rfl, .inr ⟨o', x0', by simp, hb', k1 β hβ⟩⟩, fun _ => rfl⟩
   · obtain ⟨u, xs, e, _⟩ := pos1 q hq; exact ⟨(n1 β q hq).mono (fun q hq => hq) (fun q hq => by simp at hq), fun _ => by rw [e]; rfl⟩
theorem zP9 {t : Ty} {w w' : W} {p pf : Pack} (h0 : packBoxR ob0 t w = some p) (h1 : packBoxR ob t w' = some pf) (hv : wval ρ0 w = wval ρ1 w') (hw : wfW ob0 ρ0 w) (hw' : wfW ob ρ1 w')
  (H0 : ∀ o m x, ob0 o = some (.box m x) → wfW ob0 ρ0 x ∧ (ρ0 o).len = (wcells ρ0 x).length) (H1 : ∀ o m x, ob o = some (.box m x) → wfW ob ρ1 x ∧ (ρ1 o).len = (wcells ρ1 x).length) :
  BackOk ob ρ0 ρ1 p pf.tvs (pf.boxes.map (·.1)) (pf.ro.map (·.1)) := by
 obtain ⟨o, x0, x, us, rfl, hb, hp, rfl⟩ := kQ h0; obtain ⟨o', x0', x', us', rfl, hb', hp', rfl⟩ := kQ h1; intro l r id o2 m2 x2; obtain ⟨L, i1, m1, r1, n1, k1⟩ := zRG hp' id
 refine ⟨[(o, .box .own (unpackW .ro t x' id).1)], (unpackW .ro t x' id).2, ?_, L, [(o, o')], fun j => by rw [i1]; simp; omega, fun q => ?_, fun i o hq => r1 i o hq, fun j => by simp [Pack.mutIds], fun q hq => .inl ?_, fun q hq => ?_, fun β hβ q hq => ?_⟩
 · simp only [List.cons_append, List.nil_append, unpackBack]; rw [show getTV t (l ++ [⟨t, x'⟩] ++ r) l.length = x' from zO]; simp
 · rw [zBR m1]; simp
 · rw [← i1]; exact List.mem_map_of_mem hq
 · simp only [List.mem_singleton] at hq; subst hq; obtain ⟨_, ⟨b, off, g2⟩, _⟩ := hw; obtain ⟨_, ⟨b', off', g2'⟩, _⟩ := hw'; simp only [wval, cval, zA2 g2, zA2 g2'] at hv; obtain ⟨a1, a2⟩ := H0 o _ _ hb; obtain ⟨a1', a2'⟩ := H1 o' _ _ hb'
   refine ⟨by simp, ?_, ?_⟩
   · rw [g2, g2']; simpa using hv
   · rw [a2, a2', zE7 hp a1, zE7 hp' a1']
 · simp only [List.cons_append, List.nil_append, List.mem_cons] at hq
   rcases hq with rfl | hq
   · exact ⟨⟨rfl, .inr ⟨o', x0', by simp, hb', k1 β hβ⟩⟩, fun _ => rfl⟩
   · exact ⟨(n1 β q hq).mono (fun q hq => hq) (fun q hq => by simp at hq), fun e => by simp [Pack.loud] at e⟩
end
end Go.Ev
namespace Go.Ev
section
variable {ob ob0 : Objs} {ρ0 ρ1 : Locs}
theorem zAn {t : Ty} {w : W} {p : Pack} (h : packRo ob0 t w = some p) : p.order = [] ∧ p.muts = [] ∧ p.boxes = [] := by
 unfold packRo at h
 split at h
 · simp only [Option.some.injEq] at h; subst h; exact ⟨rfl, rfl, rfl⟩
 · simp at h
theorem jp {t : Ty} {w : W} {p : Pack} (h : packRob ob0 t w = some p) : p.order = [] ∧ p.muts = [] ∧ p.boxes = [] := by
 unfold packRob at h
 split at h
 · split at h
   · split at h
     · simp only [Option.some.injEq] at h; subst h; exact ⟨rfl, rfl, rfl⟩
     · simp at h
   · simp at h
 · simp at h
theorem zEC : ∀ {caps : List (CK × Ty)} {ws : List W} {p : Pack}, packCaps ob0 caps ws = some p → caps.any (·.1.isBox) = false → p.order = [] ∧ p.muts = [] ∧ p.boxes = []
 | [], [], p, h, _ => by
  simp only [packCaps, Option.some.injEq] at h; subst h; exact ⟨rfl, rfl, rfl⟩
 | [], _ :: _, p, h, _ => by simp [packCaps] at h
 | _ :: _, [], p, h, _ => by simp [packCaps] at h
 | (b, t) :: r, w :: ws, p, h, hb => by
  simp only [packCaps] at h; simp only [List.any_cons, Bool.or_eq_false_iff] at hb
  split at h
  · rename_i p1 p2 h1 h2; simp only [Option.some.injEq] at h; subst h; obtain ⟨g1, g2, g3⟩ := zEC h2 hb.2; have : p1.order = [] ∧ p1.muts = [] ∧ p1.boxes = [] := by
     cases b with
     | val => exact zAn h1
     | rob => exact jp h1
     | box => simp [CK.isBox] at hb
    exact ⟨by simp [Pack.add, this, g1], by simp [Pack.add, this, g2], by simp [Pack.add, this, g3]⟩
  · simp at h
variable (H0 : ∀ o m x, ob0 o = some (.box m x) → wfW ob0 ρ0 x ∧ (ρ0 o).len = (wcells ρ0 x).length) (H1 : ∀ o m x, ob o = some (.box m x) → wfW ob ρ1 x ∧ (ρ1 o).len = (wcells ρ1 x).length)
include H0 H1
theorem zK7 : ∀ {caps : List (CK × Ty)} {ws ws' : List W} {p : Pack} {tvs : List TV} {mines : List Nat}, packCaps ob0 caps ws = some p → backCaps ob caps ws' = some (tvs, mines) →
  ws.map (wval ρ0) = ws'.map (wval ρ1) → (∀ w ∈ ws, wfW ob0 ρ0 w) → (∀ w ∈ ws', wfW ob ρ1 w) → BackOk ob ρ0 ρ1 p tvs mines []
 | [], [], [], p, tvs, mines, h, h', _, _, _ => by
  simp only [packCaps, Option.some.injEq] at h; simp only [backCaps, Option.some.injEq, Prod.mk.injEq] at h'; obtain ⟨rfl, rfl⟩ := h'; subst h; exact BackOk.nil rfl rfl rfl
 | [], [], _ :: _, p, tvs, mines, h, h', _, _, _ => by simp [backCaps] at h'
 | [], _ :: _, _, p, tvs, mines, h, h', _, _, _ => by simp [packCaps] at h
 | _ :: _, [], _, p, tvs, mines, h, h', _, _, _ => by simp [packCaps] at h
 | _ :: _, _ :: _, [], p, tvs, mines, h, h', e, _, _ => by simp at e
 | (b, t) :: r, w :: ws, w' :: ws', p, tvs, mines, h, h', e, hw, hw' => by
  simp only [packCaps] at h; simp only [List.map_cons, List.cons.injEq] at e
  split at h
  · rename_i p1 p2 h1 h2; simp only [Option.some.injEq] at h; subst h; have rest : ∀ {tvs mines}, backCaps ob r ws' = some (tvs, mines) → BackOk ob ρ0 ρ1 p2 tvs mines [] := fun hb => zK7 h2 hb e.2 (fun w hm => hw w (by simp [hm])) (fun w hm => hw' w (by simp [hm]))
    cases b with
    | val =>
     simp only [backCaps] at h'; obtain ⟨q1, q2, q3⟩ := zAn h1; exact (BackOk.nil q1 q2 q3).add (rest h')
    | rob =>
     simp only [backCaps] at h'; obtain ⟨q1, q2, q3⟩ := jp h1; exact (BackOk.nil q1 q2 q3).add (rest h')
    | box =>
     simp only [backCaps] at h'
     split at h'
     · rename_i pf xs us hb1 hb2; simp only [Option.some.injEq, Prod.mk.injEq] at h'; obtain ⟨rfl, rfl⟩ := h'; exact (zNS h1 hb1 e.1 (hw w (by simp)) (hw' w' (by simp)) H0 H1).add (rest hb2)
     · simp at h'
  · simp at h
theorem zQ4 {k : PK} {v v' : V} {p : Pack} {tvs : List TV} {mines ros : List Nat} (h : packArg ob0 k v = some p) (h' : k.back ob v' = some (tvs, mines, ros)) (hv : k.isFixed = true → v' ≠ .undef → vval ρ0 v = vval ρ1 v' ∧ wfV ob0 ρ0 v ∧ wfV ob ρ1 v') :
  BackOk ob ρ0 ρ1 p tvs mines ros := by
 cases k with
 | ro t =>
  simp only [PK.back, Option.some.injEq, Prod.mk.injEq] at h'; obtain ⟨rfl, rfl, rfl⟩ := h'
  cases v with
  | w w =>
   obtain ⟨q1, q2, q3⟩ := zAn h; exact BackOk.nil q1 q2 q3
  | _ => simp [packArg] at h
 | rob t =>
  simp only [PK.back, Option.some.injEq, Prod.mk.injEq] at h'; obtain ⟨rfl, rfl, rfl⟩ := h'
  cases v with
  | w w =>
   obtain ⟨q1, q2, q3⟩ := jp h; exact BackOk.nil q1 q2 q3
  | _ => simp [packArg] at h
 | own t =>
  simp only [PK.back, Option.some.injEq, Prod.mk.injEq] at h'; obtain ⟨rfl, rfl, rfl⟩ := h'
  cases v with
  | w w =>
   simp only [packArg] at h
   split at h
   · split at h
     · simp only [Option.some.injEq] at h; subst h; exact BackOk.nil rfl rfl rfl
     · simp at h
   · simp at h
  | _ => simp [packArg] at h
 | shs t =>
  simp only [PK.back, Option.some.injEq, Prod.mk.injEq] at h'; obtain ⟨rfl, rfl, rfl⟩ := h'
  cases v with
  | w w =>
   simp only [packArg] at h
   split at h
   · split at h
     · simp only [Option.some.injEq] at h; subst h; exact BackOk.nil rfl rfl rfl
     · simp at h
   · simp at h
  | _ => simp [packArg] at h
 | «mut» t =>
  cases v with
  | w w =>
   cases v' with
   | w w' =>
    obtain ⟨e, _, _⟩ := hv rfl (by simp); simp only [packArg] at h; simp only [PK.back] at h'
    split at h
    · rename_i x0 us0 hp0
      split at h
      · rename_i hc0; simp only [Option.some.injEq] at h; subst h
        split at h'
        · rename_i x us hp
          split at h'
          · rename_i hc; simp only [Option.some.injEq, Prod.mk.injEq] at h'; obtain ⟨rfl, rfl, rfl⟩ := h'; exact zQ3 hp0 hp hc e rfl rfl rfl
          · simp at h'
        · simp at h'
      · simp at h
    · simp at h
   | _ => simp [PK.back] at h'
  | _ => simp [packArg] at h
 | box t =>
  cases v with
  | w w =>
   cases v' with
   | w w' =>
    obtain ⟨e, hw, hw'⟩ := hv rfl (by simp); simp only [packArg] at h; simp only [PK.back, Option.map_eq_some_iff] at h'; obtain ⟨pf, hpf, h'⟩ := h'; simp only [Prod.mk.injEq] at h'; obtain ⟨rfl, rfl, rfl⟩ := h'; exact zNS h hpf e hw hw' H0 H1
   | _ => simp [PK.back] at h'
  | _ => simp [packArg] at h
 | muts t =>
  cases v with
  | w w =>
   cases v' with
   | w w' =>
    obtain ⟨e, _, _⟩ := hv rfl (by simp); simp only [packArg] at h; simp only [PK.back] at h'
    split at h
    · rename_i x0 us0 hp0
      split at h
      · rename_i hc0; simp only [Option.some.injEq] at h; subst h
        split at h'
        · rename_i x us hp
          split at h'
          · rename_i hc; simp only [Option.some.injEq, Prod.mk.injEq] at h'; obtain ⟨rfl, rfl, rfl⟩ := h'; exact zP8 hp0 hp hc e rfl rfl rfl
          · simp at h'
        · simp at h'
      · simp at h
    · simp at h
   | _ => simp [PK.back] at h'
  | _ => simp [packArg] at h
 | boxr t =>
  cases v with
  | w w =>
   cases v' with
   | w w' =>
    obtain ⟨e, hw, hw'⟩ := hv rfl (by simp); simp only [packArg] at h; simp only [PK.back, Option.map_eq_some_iff] at h'; obtain ⟨pf, hpf, h'⟩ := h'; simp only [Prod.mk.injEq] at h'; obtain ⟨rfl, rfl, rfl⟩ := h'; exact zP9 h hpf e hw hw' H0 H1
   | _ => simp [PK.back] at h'
  | _ => simp [packArg] at h
 | fn f caps =>
  cases v with
  | fn g ws =>
   simp only [packArg] at h
   split at h
   · simp only [PK.back] at h'
     split at h'
     · rename_i hb
       cases v' with
       | fn g' ws' =>
        obtain ⟨e, hw, hw'⟩ := hv hb (by simp); simp only at h'; have e' : ws.map (wval ρ0) = ws'.map (wval ρ1) := by
         simp only [vval, Value.func.injEq] at e; simpa using e.2.2
        rw [Option.map_eq_some_iff] at h'; obtain ⟨q, hq, h'⟩ := h'; simp only [Prod.mk.injEq] at h'; obtain ⟨rfl, rfl, rfl⟩ := h'; exact zK7 H0 H1 h hq e' hw hw'
       | _ => simp at h'
     · rename_i hb; simp only [Option.some.injEq, Prod.mk.injEq] at h'; obtain ⟨rfl, rfl, rfl⟩ := h'; obtain ⟨q1, q2, q3⟩ := zEC h (by simpa using hb); exact BackOk.nil q1 q2 q3
   · simp at h
  | _ => simp [packArg] at h
theorem zLO {tm : List V} : ∀ {ks : List PK} {vs : List V} {p : Pack} {i : Nat} {tvs : List TV} {mines ros : List Nat}, packArgs ob0 ks vs = some p → backPs ⟨tm, ob⟩ ks i = some (tvs, mines, ros) →
  (∀ (j : Nat) (k : PK) (v : V), ks[j]? = some k → vs[j]? = some v → k.isFixed = true → tm.getD (i + j) .undef ≠ .undef → vval ρ0 v = vval ρ1 (tm.getD (i + j) .undef) ∧ wfV ob0 ρ0 v ∧ wfV ob ρ1 (tm.getD (i + j) .undef)) → BackOk ob ρ0 ρ1 p tvs mines ros
 | [], [], p, i, tvs, mines, ros, h, h', _ => by
  simp only [packArgs, Option.some.injEq] at h; simp only [backPs, Option.some.injEq, Prod.mk.injEq] at h'; obtain ⟨rfl, rfl, rfl⟩ := h'; subst h; exact BackOk.nil rfl rfl rfl
 | [], _ :: _, p, i, tvs, mines, ros, h, h', _ => by simp [packArgs] at h
 | _ :: _, [], p, i, tvs, mines, ros, h, h', _ => by simp [packArgs] at h
 | k :: ks, v :: vs, p, i, tvs, mines, ros, h, h', hv => by
  simp only [packArgs] at h
  split at h
  · rename_i p1 p2 h1 h2; simp only [Option.some.injEq] at h; subst h; simp only [backPs] at h'
    split at h'
    · rename_i xs us ro ys vs' ro' hb1 hb2; simp only [Option.some.injEq, Prod.mk.injEq] at h'; obtain ⟨rfl, rfl, rfl⟩ := h'; refine (zQ4 H0 H1 h1 hb1 (fun hk hne => by simpa using hv 0 k v rfl rfl hk (by simpa using hne))).add (zLO h2 hb2 (fun j k v hj hj' hk hne => ?_)); have := hv (j + 1) k v (by simpa using hj) (by simpa using hj') hk; rw [show i + (j + 1) = i + 1 + j by omega] at this; exact this hne
    · simp at h'
  · simp at h
end
end Go.Ev
namespace Go.Ev
def outPairs (L : NL) (B : List (Nat × Nat)) : List (Nat × Nat) := (L.filterMap fun q => if q.2.2 then q.2.1.map (fun o => (q.1, o)) else none) ++ B
def outName (G : List (Nat × Nat)) (o : Nat) : Option Nat := (G.find? fun q => q.2 == o).map (·.1)
theorem zEU {G : List (Nat × Nat)} {o i : Nat} (h : outName G o = some i) : (i, o) ∈ G := by
 simp only [outName, Option.map_eq_some_iff] at h; obtain ⟨⟨j, x⟩, h1, rfl⟩ := h; have h2 := List.find?_some h1; simp only [beq_iff_eq] at h2; subst h2; exact List.mem_of_find?_eq_some h1
theorem zIx {G : List (Nat × Nat)} (hn : (G.map (·.2)).Nodup) {o i : Nat} (h : (i, o) ∈ G) : outName G o = some i := by
 cases hg : outName G o with
 | none =>
  simp only [outName, Option.map_eq_none_iff, List.find?_eq_none] at hg; have := hg _ h; simp at this
 | some j =>
  have hnd : (G.filterMap fun q => some q.2).Nodup := by
   rw [show (fun q : Nat × Nat => some q.2) = some ∘ (fun q : Nat × Nat => q.2) from rfl, List.filterMap_eq_map]; exact hn
  have := zCM hnd (zEU hg) h rfl rfl; simp only [Prod.mk.injEq] at this; rw [this.1]
theorem zKp {G : List (Nat × Nat)} {o : Nat} (h : o ∉ G.map (·.2)) : outName G o = none := by
 cases hg : outName G o with
 | none => rfl
 | some j => exact absurd (List.mem_map_of_mem (f := (·.2)) (zEU hg)) h
theorem zGj (L : NL) (B : List (Nat × Nat)) : (outPairs L B).map (·.2) = minesOf L ++ B.map (·.2) := by
 simp only [outPairs, List.map_append]; congr 1
 induction L with
 | nil => rfl
 | cons q L ih =>
  obtain ⟨k, x, m⟩ := q
  cases m with
  | false => simpa [minesOf] using ih
  | true => cases x with
   | none => simpa [minesOf] using ih
   | some o => simpa [minesOf] using ih
theorem mem_outPairs {L : NL} {B : List (Nat × Nat)} {i o : Nat} : (i, o) ∈ outPairs L B ↔ (i, some o, true) ∈ L ∨ (i, o) ∈ B := by
 simp only [outPairs, List.mem_append, List.mem_filterMap]
 constructor
 · rintro (⟨⟨j, x, m⟩, h1, h2⟩ | h)
   · cases m with
     | false => simp at h2
     | true =>
      simp only [if_true, Option.map_eq_some_iff, Prod.mk.injEq] at h2; obtain ⟨o', rfl, rfl, rfl⟩ := h2; exact .inl h1
   · exact .inr h
 · rintro (h | h)
   · exact .inl ⟨_, h, rfl⟩
   · exact .inr h
theorem kc {f : Objs} {i : Nat} {y : Obj} : ∀ {l : List (Nat × Obj)}, (f.upds l i = some y) → (i, y) ∈ l ∨ (f i = some y ∧ i ∉ l.map (·.1))
 | [], h => .inr ⟨h, by simp⟩
 | (j, x) :: l, h => by
  simp only [Objs.upds] at h
  rcases kc h with h | ⟨h1, h2⟩
  · exact .inl (by simp [h])
  · by_cases e : i = j
    · subst e; simp only [Objs.upd, if_true, Option.some.injEq] at h1; subst h1; exact .inl (by simp)
    · simp only [Objs.upd, if_neg e] at h1; exact .inr ⟨h1, by simp [e, h2]⟩
section
variable {w0 : World} {X Y0 : Nat → Prop} {fix : List (Nat × Value)} {s : St} {ρ : Locs} {col : Col} {a : Act} {w : World}
def colKeep (col : Col) (ex D : List Nat) : Col := fun b => match col b with
 | some (o, c) => if o ∈ ex ∨ o ∈ D then none else some (o, c)
 | none => none
def colDrop (col : Col) (D : List Nat) : Col := fun b => match col b with
 | some (o, c) => if o ∈ D then none else some (o, c)
 | none => none
def colOut (colf : Col) (G : List (Nat × Nat)) : Col := fun b => match colf b with
 | some (o, c) => (outName G o).map fun i => (i, c)
 | none => none
def colNew (colf : Col) (G : List (Nat × Nat)) (col : Col) (ex D : List Nat) : Col := fun b => match colOut colf G b with
 | some x => some x
 | none => colKeep col ex D b
def locNew (ob : Objs) (ρ : Locs) (β : Names) (ρf : Locs) : Locs := fun i => if (ob i).isSome then ρ i else β.loc ρf i
set_option maxHeartbeats 4000000 in
theorem zN6 (h : Inv w0 X Y0 fix s ρ col a w) {p : Pack} (hok : p.ok = true) (hro : ∀ q ∈ p.ro, (∃ t xs, s.ob q.1 = some (.row q.2 t xs)) ∨ ∃ z, s.ob q.1 = some (.box q.2 z)) (hfl : p.excl.all (flatAt s.ob) = true) {Lin : NL} (hcount : ∀ o, (minesOf Lin).count o = p.excl.count o)
  {fixC : List (Nat × Value)} {sf : St} {ρf : Locs} {colf : Col} {af : Act} {wf : World} (hf : Inv w (fun b => colIn col Lin b ≠ none) (yIn col (Yof w0 X Y0) p) fixC sf ρf colf af wf)
  {res : List (Mode × Bool × Ty)} {ws : List W} {xs ys : List TV} {us vs ros rosB : List Nat} {qt : Bool} (hqt : qt = true → res.all (fun x => x.1 = .own) = true ∧ p.loud = false) (hres : packRes sf.ob res ws = some (xs, us, ros)) (hwf : ∀ x ∈ ws, wfW sf.ob ρf x) (hback : BackOk sf.ob ρ ρf p ys vs rosB)
  (hnd : (us ++ vs).Nodup) (hap : apart (ros ++ rosB) (us ++ vs) = true) {dst : Option Nat} (hdst : apart dst.toList (fix.map (·.1)) = true) {d : Nat} {ok : Bool} {rd : List Nat}
  (hfr : fresh s.ob (((unpackRes res (xs ++ ys) 0 (idOf d)).2.1 ++ (unpackBack p.order p.muts p.boxes (xs ++ ys) res.length (unpackRes res (xs ++ ys) 0 (idOf d)).2.2).2).map (·.1)) = true) :
  ∃ ρ2 col2, Inv w0 X Y0 fix (s.put dst ⟨ok, resV (unpackRes res (xs ++ ys) 0 (idOf d)).1,
    p.gone.map (fun o => (o, Obj.dead)) ++ (if qt then [] else demotes s.ob p.ro) ++ (unpackBack p.order p.muts p.boxes (xs ++ ys) res.length (unpackRes res (xs ++ ys) 0 (idOf d)).2.2).1,
    (unpackRes res (xs ++ ys) 0 (idOf d)).2.1 ++ (unpackBack p.order p.muts p.boxes (xs ++ ys) res.length (unpackRes res (xs ++ ys) 0 (idOf d)).2.2).2, rd⟩) ρ2 col2 (a.put dst (vval ρf (resV ws))) wf := by
 obtain ⟨hok1, hok2⟩ := zO7 hok; obtain ⟨ws', robjs, id', e1, hlen, Lr, i1, c1, r1, k1, w1⟩ := zFB hres [] ys (idOf d); simp only [List.nil_append, List.length_nil] at e1; obtain ⟨b1, b2, e2, Lb, B, j1, j2, j3, j4, j5, j6, j7⟩ := hback xs [] id' [] [] []; simp only [List.append_nil, unpackBack] at e2; rw [hlen] at e2; rw [e1] at hfr ⊢; simp only at hfr ⊢; rw [e2] at hfr ⊢; simp only at hfr ⊢; obtain ⟨fr1, fr2⟩ := jZ hfr; have exNe : ∀ o ∈ p.excl, s.ob o ≠ none := by
  intro o ho e; have := (List.all_eq_true.1 hfl) o ho; simp [flatAt, e] at this
 have b1ex : ∀ j, j ∈ b1.map (·.1) ↔ j ∈ p.mutIds ++ p.boxes.map (·.1) := by
  intro j; rw [← List.count_pos_iff, ← List.count_pos_iff, j4]
 have exSub : ∀ j ∈ p.mutIds ++ p.boxes.map (·.1), j ∈ p.excl := by
  intro j hj; simp only [Pack.excl, List.mem_append] at hj ⊢; exact hj.elim (fun h => .inl (.inr h)) .inr
 have newNone : ∀ j, (j ∈ robjs.map (·.1) ∨ j ∈ b2.map (·.1)) → s.ob j = none := by
  intro j hj; refine fr2 j ?_; simp only [List.map_append, List.mem_append]; exact hj
 have exCount : ∀ j, (p.mutIds ++ p.boxes.map (·.1)).count j ≤ 1 := by
  intro j; have h1 := List.nodup_iff_count.1 hok1 j; simp only [Pack.excl, List.count_append] at h1 ⊢; omega
 have newCount : ∀ j, (robjs.map (·.1)).count j + (b2.map (·.1)).count j ≤ 1 := by
  intro j; have := List.nodup_iff_count.1 fr1 j; simpa [List.map_append, List.count_append] using this
 have keyCount : ∀ j, ((Lr ++ Lb).map (·.1)).count j + (B.map (·.1)).count j ≤ 1 := by
  intro j; have h1 := j1 j; have h2 := j4 j; rw [List.map_append, List.count_append, i1]
  by_cases hj : j ∈ b1.map (·.1)
  · have h3 := exNe j (exSub j ((b1ex j).1 hj)); have n1 : (robjs.map (·.1)).count j = 0 := List.count_eq_zero.2 fun hm => h3 (newNone j (.inl hm)); have n2 : (b2.map (·.1)).count j = 0 := List.count_eq_zero.2 fun hm => h3 (newNone j (.inr hm)); have := exCount j; omega
  · have n1 : (b1.map (·.1)).count j = 0 := List.count_eq_zero.2 hj; have := newCount j; omega
 have LLn : ((Lr ++ Lb).map (·.1)).Nodup := List.nodup_iff_count.2 fun j => by have := keyCount j; omega
 let β : Names := fun i => ((Lr ++ Lb).lookup i).map (·.1)
 have hβ : β.has (Lr ++ Lb) := fun q hq => by
  have := zFy LLn hq; simp only [β, this, Option.map_some]
 obtain ⟨hβr, hβb⟩ := Names.has_append.1 hβ; have hβk : ∀ i, β i ≠ none → ∃ q ∈ Lr ++ Lb, q.1 = i := by
  intro i hi
  cases hl : (Lr ++ Lb).lookup i with
  | none => simp [β, hl] at hi
  | some x => exact ⟨_, kp hl, rfl⟩
 generalize hD : (if qt = true then ([] : List Nat) else p.ro.map (·.1)) = D; have hDro : ∀ o ∈ D, o ∈ p.ro.map (·.1) := by
  intro o ho; rw [← hD] at ho
  split at ho
  · simp at ho
  · exact ho
 have hDex : ∀ o ∈ D, o ∉ p.excl := fun o ho => hok2 o (hDro o ho); generalize hdem : (if qt = true then ([] : List (Nat × Obj)) else demotes s.ob p.ro) = dem; have hdemD : ∀ q ∈ dem, q.1 ∈ D ∧ ∃ m, (q.1, m) ∈ p.ro ∧ q = demote s.ob q.1 := by
  intro q hq; rw [← hdem] at hq; rw [← hD]
  split at hq
  · simp at hq
  · rename_i hne; rw [if_neg hne]; simp only [demotes, List.mem_map, List.mem_filter] at hq; obtain ⟨r, ⟨hr, _⟩, rfl⟩ := hq; exact ⟨List.mem_map_of_mem hr, r.2, hr, rfl⟩
 have hroD : ∀ {y : Obj}, y.own = false → (∃ i, (i, y) ∈ robjs ++ b1 ++ b2) → D = p.ro.map (·.1) := by
  rintro y hy ⟨i, hi⟩; rw [← hD]
  split
  · rename_i hall; exfalso; simp only [List.append_assoc, List.mem_append] at hi
    rcases hi with hi | hi
    · have := w1 (hqt hall).1 _ hi; rw [hy] at this; simp at this
    · have := (j7 β hβb (i, y) (by simpa using hi)).2 (hqt hall).2; rw [hy] at this; simp at this
  · rfl
 simp only [St.put]; generalize hob : s.ob.upds (p.gone.map (fun o => (o, Obj.dead)) ++ dem ++ b1 ++ (robjs ++ b2)) = ob2
 let G := outPairs (Lr ++ Lb) B
 let ρ2 := locNew s.ob ρ β ρf
 let col2 := colNew colf G col p.excl D
 have hGn : (G.map (·.2)).Nodup := by
  rw [zGj, List.nodup_iff_count]; intro o; have h1 := c1 o; have h2 := j2 o; have h3 := List.nodup_iff_count.1 hnd o; rw [zd]; simp only [List.count_append] at h3 ⊢; omega
 have hGsub : ∀ o ∈ G.map (·.2), o ∈ us ++ vs := by
  intro o ho; rw [zGj, zd] at ho; have h0 := List.count_pos_iff.2 ho; have h1 := c1 o; have h2 := j2 o; refine List.count_pos_iff.1 ?_; simp only [List.count_append] at h0 ⊢; omega
 have hob2 : ∀ i, s.ob i ≠ none → ob2 i ≠ none := fun i hi => by rw [← hob]; exact zKV hi
 have hst : Stays s.ob ob2 ρ ρ2 := fun o ho => ⟨hob2 o ho, by
  have : (s.ob o).isSome = true := by
   cases hx : s.ob o with
   | none => exact absurd hx ho
   | some x => rfl
  simp only [ρ2, locNew, this, if_true]⟩
 have hidIn : ∀ j, (j ∈ robjs.map (·.1) ∨ j ∈ b1.map (·.1) ∨ j ∈ b2.map (·.1)) → ob2 j ≠ none := by
  intro j hj; rw [← hob]; refine zFp ?_; simp only [List.map_append, List.mem_append]
  rcases hj with hj | hj | hj
  · exact .inr (.inl hj)
  · exact .inl (.inr hj)
  · exact .inr (.inr hj)
 have hkeyIn : ∀ j, (j ∈ (Lr ++ Lb).map (·.1) ∨ j ∈ B.map (·.1)) → (j ∈ robjs.map (·.1) ∨ j ∈ b1.map (·.1) ∨ j ∈ b2.map (·.1)) := by
  intro j hj; have h1 := j1 j; simp only [List.map_append, List.mem_append, i1] at hj
  rcases hj with (hj | hj) | hj
  · exact .inl hj
  · have := List.count_pos_iff.2 hj
    by_cases hb : j ∈ b1.map (·.1)
    · exact .inr (.inl hb)
    · have n1 : (b1.map (·.1)).count j = 0 := List.count_eq_zero.2 hb; exact .inr (.inr (List.count_pos_iff.1 (by omega)))
  · have := List.count_pos_iff.2 hj
    by_cases hb : j ∈ b1.map (·.1)
    · exact .inr (.inl hb)
    · have n1 : (b1.map (·.1)).count j = 0 := List.count_eq_zero.2 hb; exact .inr (.inr (List.count_pos_iff.1 (by omega)))
 have hβob : ∀ i, β i ≠ none → ob2 i ≠ none := by
  intro i hi; obtain ⟨q, hq, rfl⟩ := hβk i hi; exact hidIn _ (hkeyIn _ (.inl (List.mem_map_of_mem hq)))
 have hβρ : ∀ i, β i ≠ none → ρ2 i = β.loc ρf i := by
  intro i hi; obtain ⟨q, hq, rfl⟩ := hβk i hi; have hnone : s.ob q.1 = none → ρ2 q.1 = β.loc ρf q.1 := fun e => by simp only [ρ2, locNew, e]; rfl
  rcases List.mem_append.1 hq with hq' | hq'
  · exact hnone (newNone _ (.inl (by rw [← i1]; exact List.mem_map_of_mem hq')))
  · rcases j5 q hq' with hb | ⟨hm, hl⟩
    · exact hnone (newNone _ (.inr hb))
    · have hne := exNe q.1 (exSub _ (List.mem_append.2 (.inl hm))); rw [(hst q.1 hne).2, hl]; simp only [Names.loc, hβ q hq]
      cases q.2.1 <;> rfl
 have F1 : ∀ b, colOut colf G b ≠ none → w.heap.size ≤ b ∨ colIn col Lin b ≠ none := by
  intro b hb; simp only [colOut] at hb
  split at hb
  · rename_i o c ho; exact (hf.cold b o c ho).1
  · exact absurd rfl hb
 have inEx : ∀ b, colIn col Lin b ≠ none → ∃ o, col b = some (o, 0) ∧ o ∈ p.excl := by
  intro b hb; simp only [colIn] at hb
  split at hb
  · rename_i o ho; refine ⟨o, ho, ?_⟩
    cases hg : gam Lin o with
    | none => simp [hg] at hb
    | some j =>
     have h1 := List.count_pos_iff.2 (mem_minesOf.2 ⟨j, zHB hg⟩); rw [hcount] at h1; exact List.count_pos_iff.1 h1
  · exact absurd rfl hb
 have F2 : ∀ b, (w.heap.size ≤ b ∨ colIn col Lin b ≠ none) → colKeep col p.excl D b = none := by
  intro b hb; simp only [colKeep]
  rcases hb with hb | hb
  · cases hc : col b with
    | none => rfl
    | some x =>
     have := (h.cold b x.1 x.2 hc).2.1; omega
  · obtain ⟨o, ho, hex⟩ := inEx b hb; rw [ho]; simp [hex]
 have F3 : ∀ b, b < w.heap.size → colIn col Lin b = none → colOut colf G b = none ∧ wf.heap[b]? = w.heap[b]? := by
  intro b hb hc; refine ⟨?_, hf.low b hb (by simp [hc])⟩
  cases hx : colOut colf G b with
  | none => rfl
  | some x =>
   rcases F1 b (by rw [hx]; simp) with g | g
   · omega
   · exact absurd hc g
 have F4 : ∀ b o c, col b = some (o, c) → (o ∉ p.excl ∨ c ≠ 0) → colIn col Lin b = none := by
  intro b o c hb ho
  cases hx : colIn col Lin b with
  | none => rfl
  | some x =>
   obtain ⟨o', e1, e2⟩ := inEx b (by rw [hx]; simp); rw [hb] at e1; simp only [Option.some.injEq, Prod.mk.injEq] at e1; obtain ⟨rfl, rfl⟩ := e1
   rcases ho with ho | ho
   · exact absurd e2 ho
   · exact absurd rfl ho
 have F5 : ∀ b, col b = none → colIn col Lin b = none := fun b hb => by simp only [colIn, hb]
 have col2keep : ∀ b, colOut colf G b = none → col2 b = colKeep col p.excl D b := fun b hb => by simp only [col2, colNew, hb]
 have col2out : ∀ b x, colOut colf G b = some x → col2 b = some x := fun b x hb => by simp only [col2, colNew, hb]
 have keepElem : ∀ b, (col b = none ∨ (∃ o k, col b = some (o, k + 1)) ∨ ∃ o c, col b = some (o, c) ∧ (o ∈ p.excl ∨ o ∈ D)) → colKeep col p.excl D b = none ∨ ∃ o k, colKeep col p.excl D b = some (o, k + 1) := by
  intro b hb; simp only [colKeep]
  rcases hb with e | ⟨o, k, e⟩ | ⟨o, c, e, ho⟩
  · left; rw [e]
  · rw [e]; simp only
    split
    · exact .inl rfl
    · exact .inr ⟨o, k, rfl⟩
  · left; rw [e]; simp [ho]
 have old : ∀ i x y, s.ob i = some x → i ∉ p.excl → ob2 i ≠ none → Moves ob2 ρ ρ2 x y → (i ∈ D → y.own = false ∧ y.mine = false) → (i ∉ D → y.mine = x.mine) → ObjRel ob2 ρ2 col2 (Yof w0 X Y0) wf i y := by
  intro i x y hx hex hne hmv hiD hiN; have A : ObjRel ob2 ρ2 (colDrop col D) (Yof w0 X Y0) w i y := by
   refine (h.objs i x hx).move hmv (hst i (by rw [hx]; simp)).2 (fun hm b hb => ?_) (fun t zs ht _ b k hb => ?_) (fun _ b hb => ?_) (fun he b k hb => ?_) (fun hxm he hm b hb => ?_)
   · have : i ∉ D := fun e => by rw [(hiD e).2] at hm; simp at hm
     simp only [colDrop, hb, if_neg this]
   · have hm : y.mine = true := by rw [ht]; rfl
     have : i ∉ D := fun e => by rw [(hiD e).2] at hm; simp at hm
     simp only [colDrop, hb, if_neg this]
   · refine ⟨?_, hb.2⟩
     rcases hb.1 with e | ⟨o, k, e⟩
     · left; simp only [colDrop, e]
     · simp only [colDrop, e]
       split
       · exact .inl rfl
       · exact .inr ⟨o, k, rfl⟩
   · refine ⟨?_, .inr (h.cold b i _ hb).1⟩; simp only [colDrop, hb]
     split
     · exact .inl rfl
     · exact .inr ⟨i, k, rfl⟩
   · have : i ∈ D := by
      by_cases e : i ∈ D
      · exact e
      · rw [hiN e, hxm] at hm; simp at hm
     exact ⟨.inl (by simp only [colDrop, hb, if_pos this]), .inr (h.cold b i _ hb).1⟩
  refine A.frame hne (Stays.refl _ _) hf.mono (fun b c hb hc => ?_) (fun b hb hr => ?_)
  · simp only [colDrop] at hc
    split at hc
    · rename_i o c' ho
      split at hc
      · simp at hc
      · rename_i hoD; simp only [Option.some.injEq, Prod.mk.injEq] at hc; obtain ⟨rfl, rfl⟩ := hc; obtain ⟨g1, g2⟩ := F3 b hb (F4 b _ _ ho (.inl hex)); refine ⟨?_, g2⟩; rw [col2keep b g1]; simp only [colKeep, ho]; rw [if_neg (by simp [hex, hoD])]
    · simp at hc
  · have key : (col b = none ∨ (∃ o k, col b = some (o, k + 1)) ∨ ∃ o c, col b = some (o, c) ∧ o ∈ D) := by
     have := hr.1; simp only [colDrop] at this
     cases hc : col b with
     | none => exact .inl rfl
     | some x =>
      obtain ⟨o, c⟩ := x; rw [hc] at this; simp only at this
      by_cases hoD : o ∈ D
      · exact .inr (.inr ⟨o, c, rfl, hoD⟩)
      · rw [if_neg hoD] at this
        rcases this with e | ⟨o', k, e⟩
        · simp at e
        · exact .inr (.inl ⟨o', k, e⟩)
    have hin : colIn col Lin b = none := by
     rcases key with e | ⟨o, k, e⟩ | ⟨o, c, e, ho⟩
     · exact F5 b e
     · exact F4 b o _ e (.inr (by omega))
     · exact F4 b o c e (.inl (hDex o ho))
    obtain ⟨g1, g2⟩ := F3 b hb hin; refine ⟨⟨?_, hr.2⟩, g2⟩; rw [col2keep b g1]; refine keepElem b ?_
    rcases key with e | e | ⟨o, c, e, ho⟩
    · exact .inl e
    · exact .inr (.inl e)
    · exact .inr (.inr ⟨o, c, e, .inr ho⟩)
 have notIn : ∀ b, (w.heap.size ≤ b ∨ colIn col Lin b ≠ none) → Yof w0 X Y0 b := by
  intro b hb
  rcases hb with hb | hb
  · exact .inr (.inl (Nat.le_trans h.mono hb))
  · obtain ⟨o, ho, _⟩ := inEx b hb; exact .inr (h.cold b o 0 ho).1
 have outRO : ∀ b, colf b = none ∨ (∃ o k, colf b = some (o, k + 1)) → colOut colf G b = none ∨ ∃ o k, colOut colf G b = some (o, k + 1) := by
  intro b hb; simp only [colOut]
  rcases hb with e | ⟨o, k, e⟩
  · left; rw [e]
  · rw [e]; simp only
    cases outName G o with
    | none => exact .inl rfl
    | some j => exact .inr ⟨j, k, rfl⟩
 have fresh2 : ∀ b, (w.heap.size ≤ b ∨ colIn col Lin b ≠ none) → (colOut colf G b = none ∨ ∃ o k, colOut colf G b = some (o, k + 1)) → RO col2 (Yof w0 X Y0) b := by
  intro b hb ho; refine ⟨?_, notIn b hb⟩
  rcases ho with e | ⟨o, k, e⟩
  · left; rw [col2keep b e, F2 b hb]
  · right; exact ⟨o, k, col2out b _ e⟩
 have new : ∀ i y, (i, y) ∈ robjs ++ b1 ++ b2 → (y.mine = false → ∀ o, (i, some o, false) ∈ Lr ++ Lb → o ∈ ros ++ rosB) → OutNew sf.ob β B (Lr ++ Lb) i y → ObjRel ob2 ρ2 col2 (Yof w0 X Y0) wf i y := by
  intro i y hiy hros hnew; have mv : ∀ o x, (i, some o, y.mine) ∈ Lr ++ Lb → sf.ob o = some x → Moves ob2 ρf ρ2 x y → (y.own = true → y.mine = true) → ObjRel ob2 ρ2 col2 (Yof w0 X Y0) wf i y := by
   intro o x hq hx hmv hom; have hbi : β i = some (some o) := hβ _ hq; have hname : y.mine = true → outName G o = some i := fun hm => zIx hGn (mem_outPairs.2 (.inl (by rw [← hm]; exact hq)))
   refine (hf.objs o x hx).move hmv (by rw [hβρ i (by rw [hbi]; simp)]; simp only [Names.loc, hbi]) (fun hm b hb => ?_) (fun t zs ht _ b k hb => ?_) (fun he b hb => ?_) (fun he b k hb => ?_) (fun _ he hm b hb => ?_)
   · exact col2out b _ (by simp only [colOut, hb, hname hm, Option.map_some])
   · have hm : y.mine = true := by rw [ht]; rfl
     exact col2out b _ (by simp only [colOut, hb, hname hm, Option.map_some])
   · have hDD := hroD he ⟨i, hiy⟩
     by_cases hin : w.heap.size ≤ b ∨ colIn col Lin b ≠ none
     · exact fresh2 b hin (outRO b hb.1)
     · have hlt : b < w.heap.size := by
        rcases Nat.lt_or_ge b w.heap.size with g | g
        · exact g
        · exact absurd (.inl g) hin
       have hcn : colIn col Lin b = none := by
        cases hx : colIn col Lin b with
        | none => rfl
        | some x => exact absurd (.inr (by rw [hx]; simp)) hin
       have hy : yIn col (Yof w0 X Y0) p b := by
        rcases hb.2 with g | g | g
        · exact g
        · exact absurd (.inl g) hin
        · exact absurd (.inr g) hin
       obtain ⟨g1, _⟩ := F3 b hlt hcn; unfold yIn at hy
       rcases hy with ⟨g, gy⟩ | ⟨o', c, g, go⟩
       · refine ⟨?_, gy⟩; rw [col2keep b g1]; exact keepElem b (g.imp id .inl)
       · refine ⟨?_, .inr (h.cold b o' c g).1⟩; rw [col2keep b g1]; refine keepElem b (.inr (.inr ⟨o', c, g, ?_⟩)); simp only [Pack.ids, List.mem_append] at go
         rcases go with go | go
         · exact .inr (by rw [hDD]; exact go)
         · exact .inl go
   · exact fresh2 b (hf.cold b o _ hb).1 (outRO b (.inr ⟨o, k, hb⟩))
   · have hno : outName G o = none := zKp fun hm' => zBV hap o (hros hm o (by rw [← hm]; exact hq)) (hGsub o hm')
     exact fresh2 b (hf.cold b o _ hb).1 (.inl (by simp only [colOut, hb, hno, Option.map_none]))
  cases y with
  | dead => trivial
  | row m u zs =>
   rcases hnew with ⟨hq, rfl⟩ | ⟨o, m0, hq, hx, hle⟩
   · refine ObjRel.nil ?_; rw [hβρ i (by rw [hβ _ hq]; simp)]; simp only [Names.loc, hβ _ hq]
   · exact mv o _ hq hx (.row hle) (fun e => by cases m <;> simp_all [Obj.own, Obj.mine, Mode.mine])
  | box m z =>
   obtain ⟨rfl, ⟨o, x0, hq, hx, hrel⟩ | ⟨o, x0, hq, hx, hrel⟩⟩ := hnew
   · have hwf0 : wfW sf.ob ρf x0 := by obtain ⟨_, _, _, g, _⟩ := hf.objs o _ hx; exact g
     obtain ⟨g1, g2, _⟩ := RelW.val (ob := sf.ob) (ρ := ρf) (ρ' := ρ2) hβρ hβob hrel hwf0; exact mv o _ hq hx (.box rfl g1 g2) (fun _ => rfl)
   · have hwf0 : wfW sf.ob ρf x0 := by obtain ⟨_, _, _, g, _⟩ := hf.objs o _ hx; exact g
     obtain ⟨g1, g2, _⟩ := RelW.val (ob := sf.ob) (ρ := ρf) (ρ' := ρ2) hβρ hβob hrel hwf0; obtain ⟨q1, q2, q3⟩ := j6 _ hq; have hne := exNe i (exSub i (List.mem_append.2 (.inr q1))); have hname : outName G o = some i := zIx hGn (mem_outPairs.2 (.inr hq)); exact (hf.objs o _ hx).moveBox g1 g2 (by rw [(hst i hne).2]; exact q2) (by rw [(hst i hne).2]; exact q3) (fun b hb => col2out b _ (by simp only [colOut, hb, hname, Option.map_some]))
 have main := h.step (dst := dst) (ob' := ob2) (ρ' := ρ2) (col' := col2) (w' := wf) (v := resV ws') (x := vval ρf (resV ws)) hdst hst
  (fun i y hy => ?_) (fun b i c hb => ?_) (fun b hb hx => ?_) hf.mono ?_ hf.same
 · exact ⟨ρ2, col2, main⟩
 · rw [← hob] at hy; have hcase := kc hy
   rcases hcase with hm | ⟨hx, hni⟩
   · simp only [List.append_assoc, List.mem_append] at hm
     rcases hm with hm | hm | hm
     · obtain ⟨o, _, e⟩ := List.mem_map.1 hm; simp only [Prod.mk.injEq] at e; rw [← e.2]; trivial
     · obtain ⟨hD1, m, hro, he⟩ := hdemD _ hm; simp only at hD1 hro he; have hob2i : ob2 i ≠ none := by
        rw [← hob]; exact zFp (by simp only [List.map_append, List.mem_append]; exact .inl (.inl (.inr (List.mem_map_of_mem hm))))
       cases hx : s.ob i with
       | none =>
        simp only [demote, hx, Prod.mk.injEq] at he; rw [he.2]; trivial
       | some x =>
        simp only [demote, hx, Prod.mk.injEq, true_and] at he
        cases x with
        | dead => rw [he]; trivial
        | row m0 t zs =>
         rw [he]; exact old i _ _ hx (hDex i hD1) hob2i (.row (by cases m0 <;> rfl)) (fun _ => ⟨rfl, rfl⟩) (fun e => absurd hD1 e)
        | box m0 z =>
         rw [he]; have hwf0 : wfW s.ob ρ z := by obtain ⟨_, _, _, g, _⟩ := h.objs i _ hx; exact g
         exact old i _ _ hx (hDex i hD1) hob2i (.box (by cases m0 <;> rfl) (hst.wfW hwf0) (hst.wcells hwf0)) (fun _ => ⟨rfl, rfl⟩) (fun e => absurd hD1 e)
     · have hmem : (i, y) ∈ robjs ++ b1 ++ b2 := by
        simp only [List.append_assoc, List.mem_append]
        rcases hm with hm | hm | hm
        · exact .inr (.inl hm)
        · exact .inl hm
        · exact .inr (.inr hm)
       refine new i y hmem (fun hmm o hq => ?_) ?_
       · rcases List.mem_append.1 hq with hq | hq
         · exact List.mem_append.2 (.inl (r1 i o hq))
         · exact List.mem_append.2 (.inr (j3 i o hq))
       · rcases hm with hm | hm | hm
         · exact ((j7 β hβb (i, y) (by simp [hm])).1).mono (fun q hq => by simp [hq]) (fun q hq => hq)
         · exact ((k1 β hβr).2 (i, y) hm).mono (fun q hq => by simp [hq]) (fun q hq => by simp at hq)
         · exact ((j7 β hβb (i, y) (by simp [hm])).1).mono (fun q hq => by simp [hq]) (fun q hq => hq)
   · have hne : ob2 i ≠ none := hob2 i (by rw [hx]; simp); have hex : i ∉ p.excl := by
      intro he; refine hni ?_; simp only [Pack.excl, List.mem_append] at he; simp only [List.map_append, List.mem_append, List.map_map]
      rcases he with (he | he) | he
      · exact .inl (.inl (.inl (List.mem_map.2 ⟨i, he, rfl⟩)))
      · exact .inl (.inr ((b1ex i).2 (List.mem_append.2 (.inl he))))
      · exact .inl (.inr ((b1ex i).2 (List.mem_append.2 (.inr he))))
     have hmv : Moves ob2 ρ ρ2 y y := by
      cases y with
      | dead => exact .dead
      | row m t zs => exact .row (by cases m <;> rfl)
      | box m z =>
       have hwf0 : wfW s.ob ρ z := by obtain ⟨_, _, _, g, _⟩ := h.objs i _ hx; exact g
       exact .box (by cases m <;> rfl) (hst.wfW hwf0) (hst.wcells hwf0)
     by_cases hyd : y = .dead
     · rw [hyd]; trivial
     refine old i y y hx hex hne hmv (fun hiD => ?_) (fun _ => rfl); have hroi := hDro i hiD; obtain ⟨⟨j, m⟩, hr, e⟩ := List.mem_map.1 hroi; simp only at e; subst e; have hall : ¬ (qt = true) := by
      intro hall; rw [← hD, if_pos hall] at hiD; simp at hiD
     cases hm : m.mine with
     | true =>
      exfalso; refine hni ?_; have : demote s.ob j ∈ dem := by
       rw [← hdem, if_neg hall]; simp only [demotes, List.mem_map, List.mem_filter]; exact ⟨(j, m), ⟨hr, hm⟩, rfl⟩
      have := List.mem_map_of_mem (f := (·.1)) this; simp only [List.map_append, List.mem_append]; exact .inl (.inl (.inr this))
     | false =>
      have hmr : m = .ro := by cases m <;> simp_all [Mode.mine]
      subst hmr
      rcases hro _ hr with ⟨t, zs, g⟩ | ⟨z, g⟩
      · simp only at g; rw [hx] at g; simp only [Option.some.injEq] at g; rw [g]; exact ⟨rfl, rfl⟩
      · simp only at g; rw [hx] at g; simp only [Option.some.injEq] at g; rw [g]; exact ⟨rfl, rfl⟩
 · by_cases hout : colOut colf G b = none
   · rw [col2keep b hout] at hb; simp only [colKeep] at hb
     split at hb
     · rename_i o c' ho
       split at hb
       · simp at hb
       · simp only [Option.some.injEq, Prod.mk.injEq] at hb; obtain ⟨rfl, rfl⟩ := hb; obtain ⟨g1, g2, g3⟩ := h.cold b o c' ho; exact ⟨g1, Nat.lt_of_lt_of_le g2 hf.mono, hob2 o g3⟩
     · simp at hb
   · cases hx : colOut colf G b with
     | none => exact absurd hx hout
     | some x =>
      rw [col2out b x hx] at hb; simp only [Option.some.injEq] at hb; subst hb; simp only [colOut] at hx
      split at hx
      · rename_i o c' ho; rw [Option.map_eq_some_iff] at hx; obtain ⟨i', hi', hx⟩ := hx; simp only [Prod.mk.injEq] at hx; obtain ⟨rfl, rfl⟩ := hx; obtain ⟨g1, g2, _⟩ := hf.cold b o c' ho
        refine ⟨?_, g2, ?_⟩
        · rcases g1 with g | g
          · exact .inl (Nat.le_trans h.mono g)
          · obtain ⟨o2, ho2, _⟩ := inEx b g; exact (h.cold b o2 0 ho2).1
        · have := mem_outPairs.1 (zEU hi'); refine hidIn _ (hkeyIn _ ?_)
          rcases this with g | g
          · exact .inl (List.mem_map_of_mem g)
          · exact .inr (List.mem_map_of_mem g)
      · simp at hx
 · refine hf.low b (Nat.lt_of_lt_of_le hb h.mono) (fun hc => ?_); obtain ⟨o, ho, _⟩ := inEx b hc
   rcases (h.cold b o 0 ho).1 with g | g
   · omega
   · exact hx g
 · have hrel := (k1 β hβr).1; obtain ⟨g1, g2⟩ := RelWs.val (ob := sf.ob) (ρ := ρf) (ρ' := ρ2) hβρ hβob hrel hwf; refine .inr ?_; have hl : ws.length = ws'.length := by
    have := congrArg List.length g2; simpa using this.symm
   match ws, ws', hl, g1, g2 with
   | [], [], _, g1, g2 => exact ⟨fun x hx => by simp at hx, rfl⟩
   | [u], [v], _, g1, g2 =>
    simp only [List.map_cons, List.map_nil, List.cons.injEq, and_true] at g2; exact ⟨g1 v (by simp), by simp only [resV, vval, g2]⟩
   | u :: u' :: us, v :: v' :: vs, _, g1, g2 =>
    refine ⟨fun x hx => g1 x hx, ?_⟩; simp only [resV, vval]; rw [g2]
end
end Go.Ev
namespace Go.Ev
def RoKnown (ob : Objs) (us : List (Nat × Mode)) : Prop := ∀ q ∈ us, (∃ t xs, ob q.1 = some (.row q.2 t xs)) ∨ ∃ z, ob q.1 = some (.box q.2 z)
theorem RoKnown.append {ob : Objs} {a b : List (Nat × Mode)} (h : RoKnown ob a) (g : RoKnown ob b) : RoKnown ob (a ++ b) := fun q hq => (List.mem_append.1 hq).elim (h q) (g q)
theorem zER {ob : Objs} : ∀ {t : Ty} {cs : List C} {x : t.den} {us : List (Nat × Mode)} {r : List C}, packC ob t cs = some (x, us, r) → RoKnown ob us
 | .int k, cs, x, us, r, h => by
  match cs, h with
  | .int k1 n1 :: q, h =>
   simp only [packC] at h
   split at h
   · simp only [Option.some.injEq, Prod.mk.injEq] at h; rw [← h.2.1]; exact fun q hq => by simp at hq
   · simp at h
 | .bool, cs, x, us, r, h => by
  match cs, h with
  | .bool b1 :: q, h =>
   simp only [packC, Option.some.injEq, Prod.mk.injEq] at h; rw [← h.2.1]; exact fun q hq => by simp at hq
 | .arr k m', cs, x, us, r, h => by
  match cs, h with
  | [], h => simp [packC] at h
  | c :: cs, h => cases c <;> simp [packC] at h
 | .barr m', cs, x, us, r, h => by
  match cs, h with
  | [], h => simp [packC] at h
  | c :: cs, h => cases c <;> simp [packC] at h
 | .slice t, cs, x, us, r, h => by
  match cs, h with
  | .nil :: r', h =>
   simp only [packC, Option.some.injEq, Prod.mk.injEq] at h; rw [← h.2.1]; exact fun q hq => by simp at hq
  | .sl o :: r', h =>
   simp only [packC] at h
   split at h
   · rename_i m ys hr; simp only [Option.some.injEq, Prod.mk.injEq] at h; rw [← h.2.1]; intro q hq; simp only [List.mem_singleton] at hq; subst hq; exact .inl ⟨t, ys, zK hr⟩
   · simp at h
 | .pair a b, cs, x, us, r, h => by
  simp only [packC] at h
  split at h
  · rename_i x1 us1 r1 h1
    split at h
    · rename_i x2 us2 r2 h2; simp only [Option.some.injEq, Prod.mk.injEq] at h; rw [← h.2.1]; exact (zER h1).append (zER h2)
    · simp at h
  · simp at h
theorem zEQ {ob : Objs} {t : Ty} {w : W} {x : t.den} {us : List (Nat × Mode)} (h : packW ob t w = some (x, us)) : RoKnown ob us := by
 have none : RoKnown ob [] := fun q hq => by simp at hq
 cases t with
 | int k => cases w with
  | c c =>
   cases c <;> simp only [packW] at h <;> try (simp at h; done)
   split at h
   · simp only [Option.some.injEq, Prod.mk.injEq] at h; rw [← h.2]; exact none
   · simp at h
  | _ => simp [packW] at h
 | bool => cases w with
  | c c =>
   cases c <;> simp only [packW] at h <;> try (simp at h; done)
   simp only [Option.some.injEq, Prod.mk.injEq] at h; rw [← h.2]; exact none
  | _ => simp [packW] at h
 | arr k n =>
  cases w <;> simp only [packW] at h <;> try (simp at h; done)
  split at h
  · simp only [Option.some.injEq, Prod.mk.injEq] at h; rw [← h.2]; exact none
  · simp at h
 | barr n =>
  cases w <;> simp only [packW] at h <;> try (simp at h; done)
  split at h
  · simp only [Option.some.injEq, Prod.mk.injEq] at h; rw [← h.2]; exact none
  · simp at h
 | slice t => cases w with
  | c c =>
   cases c with
   | nil =>
    simp only [packW, Option.some.injEq, Prod.mk.injEq] at h; rw [← h.2]; exact none
   | sl o =>
    simp only [packW] at h
    split at h
    · rename_i m ys hr; simp only [Option.some.injEq, Prod.mk.injEq] at h; rw [← h.2]; intro q hq; simp only [List.mem_singleton] at hq; subst hq; exact .inl ⟨t, ys, zK hr⟩
    · simp at h
   | _ => simp [packW] at h
  | _ => simp [packW] at h
 | pair a b => cases w with
  | st cs =>
   simp only [packW] at h
   split at h
   · rename_i x1 us1 h1; simp only [Option.some.injEq, Prod.mk.injEq] at h; rw [← h.2]; exact zER h1
   · simp at h
  | _ => simp [packW] at h
section
variable {ob : Objs}
theorem zGf {t : Ty} {w : W} {p : Pack} (h : packRo ob t w = some p) : RoKnown ob p.ro := by
 unfold packRo at h
 split at h
 · rename_i x us hp; simp only [Option.some.injEq] at h; subst h; exact zEQ hp
 · simp at h
theorem zE9 {t : Ty} {w : W} {p : Pack} (h : packRob ob t w = some p) : RoKnown ob p.ro := by
 unfold packRob at h
 split at h
 · split at h
   · rename_i m w hb
     split at h
     · rename_i x us hp; simp only [Option.some.injEq] at h; subst h; intro q hq
       rcases List.mem_cons.1 hq with rfl | hq
       · exact .inr ⟨w, hb⟩
       · exact zEQ hp q hq
     · simp at h
   · simp at h
 · simp at h
theorem zFG {t : Ty} {w : W} {p : Pack} (h : packBox ob t w = some p) : RoKnown ob p.ro := by
 obtain ⟨o, x0, x, us, rfl, hb, hp, hc, rfl⟩ := kl h; exact fun q hq => by simp at hq
theorem zIh {t : Ty} {w : W} {p : Pack} (h : packBoxR ob t w = some p) : RoKnown ob p.ro := by
 obtain ⟨o, x0, x, us, rfl, hb, hp, rfl⟩ := kQ h; exact zEQ hp
theorem zFC : ∀ {caps : List (CK × Ty)} {ws : List W} {p : Pack}, packCaps ob caps ws = some p → p.loud = false
 | [], [], p, h => by
  simp only [packCaps, Option.some.injEq] at h; subst h
  rfl
 | [], _ :: _, p, h => by simp [packCaps] at h
 | _ :: _, [], p, h => by simp [packCaps] at h
 | (b, t) :: r, w :: ws, p, h => by
  simp only [packCaps] at h
  split at h
  · rename_i p1 p2 h1 h2; simp only [Option.some.injEq] at h; subst h; rw [Pack.loud_add, zFC h2, Bool.or_false]
    cases b with
    | val =>
     obtain ⟨q1, q2, q3⟩ := zAn h1; simp [Pack.loud, q2, q3]
    | rob =>
     obtain ⟨q1, q2, q3⟩ := jp h1; simp [Pack.loud, q2, q3]
    | box =>
     obtain ⟨o, x0, x, us, rfl, hb, hp, hc, rfl⟩ := kl h1; simp [Pack.loud]
  · simp at h
theorem zKo {k : PK} {v : V} {p : Pack} (h : packArg ob k v = some p) (hk : k.loud = false) : p.loud = false := by
 cases k with
 | ro t => cases v with
  | w w =>
   obtain ⟨q1, q2, q3⟩ := zAn h; simp [Pack.loud, q2, q3]
  | _ => simp [packArg] at h
 | rob t => cases v with
  | w w =>
   obtain ⟨q1, q2, q3⟩ := jp h; simp [Pack.loud, q2, q3]
  | _ => simp [packArg] at h
 | box t => cases v with
  | w w =>
   obtain ⟨o, x0, x, us, rfl, hb, hp, hc, rfl⟩ := kl h; simp [Pack.loud]
  | _ => simp [packArg] at h
 | boxr t => simp [PK.loud] at hk
 | muts t => simp [PK.loud] at hk
 | shs t => cases v with
  | w w =>
   simp only [packArg] at h
   split at h
   · split at h
     · simp only [Option.some.injEq] at h; subst h
       rfl
     · simp at h
   · simp at h
  | _ => simp [packArg] at h
 | own t => cases v with
  | w w =>
   simp only [packArg] at h
   split at h
   · split at h
     · simp only [Option.some.injEq] at h; subst h
       rfl
     · simp at h
   · simp at h
  | _ => simp [packArg] at h
 | «mut» t => cases v with
  | w w =>
   simp only [packArg] at h
   split at h
   · split at h
     · simp only [Option.some.injEq] at h; subst h; simp [Pack.loud]
     · simp at h
   · simp at h
  | _ => simp [packArg] at h
 | fn f caps => cases v with
  | fn g ws =>
   simp only [packArg] at h
   split at h
   · exact zFC h
   · simp at h
  | _ => simp [packArg] at h
theorem zFI : ∀ {ks : List PK} {vs : List V} {p : Pack}, packArgs ob ks vs = some p → ks.all (fun k => !k.loud) = true → p.loud = false
 | [], [], p, h, _ => by
  simp only [packArgs, Option.some.injEq] at h; subst h
  rfl
 | [], _ :: _, p, h, _ => by simp [packArgs] at h
 | _ :: _, [], p, h, _ => by simp [packArgs] at h
 | k :: ks, v :: vs, p, h, ha => by
  simp only [packArgs] at h; simp only [List.all_cons, Bool.and_eq_true, Bool.not_eq_true'] at ha
  split at h
  · rename_i p1 p2 h1 h2; simp only [Option.some.injEq] at h; subst h; rw [Pack.loud_add, zKo h1 ha.1, zFI h2 ha.2]
    rfl
  · simp at h
theorem zEE : ∀ {caps : List (CK × Ty)} {ws : List W} {p : Pack}, packCaps ob caps ws = some p → RoKnown ob p.ro
 | [], [], p, h => by
  simp only [packCaps, Option.some.injEq] at h; subst h; exact fun q hq => by simp at hq
 | [], _ :: _, p, h => by simp [packCaps] at h
 | _ :: _, [], p, h => by simp [packCaps] at h
 | (b, t) :: r, w :: ws, p, h => by
  simp only [packCaps] at h
  split at h
  · rename_i p1 p2 h1 h2; simp only [Option.some.injEq] at h; subst h; refine RoKnown.append ?_ (zEE h2)
    cases b with
    | val => exact zGf h1
    | rob => exact zE9 h1
    | box => exact zFG h1
  · simp at h
theorem zJk {k : PK} {v : V} {p : Pack} (h : packArg ob k v = some p) : RoKnown ob p.ro := by
 have none : ∀ q ∈ ([] : List (Nat × Mode)), (∃ t xs, ob q.1 = some (.row q.2 t xs)) ∨ ∃ z, ob q.1 = some (.box q.2 z) := fun q hq => by simp at hq
 cases k with
 | ro t => cases v with
  | w w => exact zGf h
  | _ => simp [packArg] at h
 | rob t => cases v with
  | w w => exact zE9 h
  | _ => simp [packArg] at h
 | box t => cases v with
  | w w => exact zFG h
  | _ => simp [packArg] at h
 | shs t => cases v with
  | w w =>
   simp only [packArg] at h
   split at h
   · split at h
     · simp only [Option.some.injEq] at h; subst h; exact none
     · simp at h
   · simp at h
  | _ => simp [packArg] at h
 | own t => cases v with
  | w w =>
   simp only [packArg] at h
   split at h
   · split at h
     · simp only [Option.some.injEq] at h; subst h; exact none
     · simp at h
   · simp at h
  | _ => simp [packArg] at h
 | «mut» t => cases v with
  | w w =>
   simp only [packArg] at h
   split at h
   · split at h
     · simp only [Option.some.injEq] at h; subst h; exact none
     · simp at h
   · simp at h
  | _ => simp [packArg] at h
 | boxr t => cases v with
  | w w => exact zIh h
  | _ => simp [packArg] at h
 | muts t => cases v with
  | w w =>
   simp only [packArg] at h
   split at h
   · split at h
     · simp only [Option.some.injEq] at h; subst h; exact none
     · simp at h
   · simp at h
  | _ => simp [packArg] at h
 | fn f caps => cases v with
  | fn g ws =>
   simp only [packArg] at h
   split at h
   · exact zEE h
   · simp at h
  | _ => simp [packArg] at h
theorem zEI : ∀ {ks : List PK} {vs : List V} {p : Pack}, packArgs ob ks vs = some p → RoKnown ob p.ro
 | [], [], p, h => by
  simp only [packArgs, Option.some.injEq] at h; subst h; exact fun q hq => by simp at hq
 | [], _ :: _, p, h => by simp [packArgs] at h
 | _ :: _, [], p, h => by simp [packArgs] at h
 | k :: ks, v :: vs, p, h => by
  simp only [packArgs] at h
  split at h
  · rename_i p1 p2 h1 h2; simp only [Option.some.injEq] at h; subst h; exact (zJk h1).append (zEI h2)
  · simp at h
theorem zGh : ∀ {ks : List PK} {vs : List V} {p : Pack}, packArgs ob ks vs = some p → ks.length = vs.length
 | [], [], p, h => rfl
 | [], _ :: _, p, h => by simp [packArgs] at h
 | _ :: _, [], p, h => by simp [packArgs] at h
 | k :: ks, v :: vs, p, h => by
  simp only [packArgs] at h
  split at h
  · rename_i p1 p2 h1 h2; simp [zGh h2]
  · simp at h
theorem zEG : ∀ {ks : List PK} {vs : List V} {p : Pack}, packArgs ob ks vs = some p → ∀ v ∈ vs, v ≠ .undef
 | [], [], p, h, v, hv => by simp at hv
 | [], _ :: _, p, h, v, hv => by simp [packArgs] at h
 | _ :: _, [], p, h, v, hv => by simp at hv
 | k :: ks, u :: vs, p, h, v, hv => by
  simp only [packArgs] at h
  split at h
  · rename_i p1 p2 h1 h2
    rcases List.mem_cons.1 hv with rfl | hv
    · intro e; subst e
      cases k <;> simp [packArg] at h1
    · exact zEG h2 v hv
  · simp at h
end
def fixOf (fd : FD) (args : List Value) : List (Nat × Value) := fd.fixed.map fun i => (i, args.getD i Go.undef)
theorem zF3 : ∀ (ks : List PK) (i j : Nat), j ∈ fixedGo ks i → i ≤ j ∧ j < i + ks.length
 | [], i, j, h => by simp [fixedGo] at h
 | k :: ks, i, j, h => by
  simp only [fixedGo] at h
  split at h
  · rcases List.mem_cons.1 h with rfl | h
    · simp
    · have := zF3 ks (i + 1) j h; simp; omega
  · have := zF3 ks (i + 1) j h; simp; omega
theorem zHu : ∀ {ks : List PK} {i j : Nat} {k : PK}, ks[j]? = some k → k.isFixed = true → i + j ∈ fixedGo ks i
 | [], i, j, k, h, _ => by simp at h
 | k' :: ks, i, 0, k, h, hk => by
  simp only [List.getElem?_cons_zero, Option.some.injEq] at h; subst h; simp [fixedGo, hk]
 | k' :: ks, i, j + 1, k, h, hk => by
  have := zHu (ks := ks) (i := i + 1) (j := j) (by simpa using h) hk; rw [show i + 1 + j = i + (j + 1) by omega] at this; simp only [fixedGo]
  split
  · exact List.mem_cons_of_mem _ this
  · exact this
def FnSpec (P : Program) (E : Env) (fd : FD) (tvs outs : List TV) : Prop :=
 ∀ (w0 : World) (X Y0 : Nat → Prop) (ρ : Locs) (col : Col) (args : List Value), args.length = fd.sig.params.length → Kept fd w0 X Y0 (fixOf fd args) →
  Inv w0 X Y0 (fixOf fd args) (fd.init tvs) ρ col ⟨args.toArray ++ Array.replicate (fd.fn.ntmps - args.length) undef, []⟩ w0 →
  Calls P fd.id args.toArray w0 fun e w' => ∃ s' ρ' col' a' ws, e = .returned (vval ρ' (resV ws)) ∧ Inv w0 X Y0 (fixOf fd args) s' ρ' col' a' w' ∧ fd.finish E s' = some outs ∧ resWs E s' fd.fn.results.toList = some ws ∧ ∀ x ∈ ws, wfW s'.ob ρ' x
def ExtOk (P : Program) (E : Env) (fd : FD) (k : ExtK) : Prop :=
 ∀ (call : Oracle) (tvs outs : List TV), (∀ v fd tvs outs, E.fd v = some fd → call v tvs = some outs → FnSpec P E fd tvs outs) → extE k call tvs = some outs → FnSpec P E fd tvs outs
structure EnvOk (P : Program) (E : Env) : Prop where
 ty : EnvTy P E
 mixed : P.follows .mixedOrders = true
 fn : ∀ v fd, E.fd v = some fd → P.funcs[fd.id]? = some fd.fn ∧ (fd.fn.name == "runtime.NumGoroutine") = false ∧ fd.fn.body.isNone = false ∧ ((initPs [] fd.sig.params 0 0).2.map (·.1)).Nodup ∧ fd.sig.params.length ≤ fd.fn.ntmps
 ld : ∀ v fd, E.fd v = some fd → E.ld v = none ∧ (∀ q ∈ fd.loops, E.ld q.2.lid = some ⟨v, q.1, q.2, false⟩) ∧ ∀ q ∈ fd.joins, E.ld q.2.lid = some ⟨v, q.1, q.2, true⟩
 ext : ∀ v fd k, E.fd v = some fd → E.ext v = some k → ExtOk P E fd k
theorem zEO (m : Mode) : ∀ (t : Ty) (x y : t.den) (i : Nat), (unpackC m t x i).2.map (·.1) = (unpackC m t y i).2.map (·.1)
 | .int _, _, _, _ => rfl
 | .bool, _, _, _ => rfl
 | .arr _ _, _, _, _ => rfl
 | .barr _, _, _, _ => rfl
 | .slice _, _, _, _ => rfl
 | .pair a b, x, y, i => by
  have h1 := zEO m a x.1 y.1 i; have h1' : (unpackC m a x.1 i).2.length = (unpackC m a y.1 i).2.length := by simpa using congrArg List.length h1
  have h2 := zEO m b x.2 y.2 (i + (unpackC m a x.1 i).2.length); rw [h1'] at h2; simp only [unpackC, List.map_append, h1, h1', h2]
theorem zh (m : Mode) (t : Ty) (x y : t.den) (i : Nat) : (unpackW m t x i).2.map (·.1) = (unpackW m t y i).2.map (·.1) := by
 rw [kC, kC]; exact zEO m t x y i
theorem zME (b : CK) (t : Ty) (x y : t.den) (i : Nat) : (capInit b t x i).2.map (·.1) = (capInit b t y i).2.map (·.1) := by
 cases b with
 | val => exact zh _ t x y i
 | rob => simp only [capInit, List.map_cons]; rw [zh .ro t x y]
 | box => simp only [capInit, List.map_cons]; rw [zh .own t x y]
theorem zD8 : ∀ (caps : List (CK × Ty)) (l r : List TV) (p q i : Nat), (unpackCaps caps l p i).2.1.map (·.1) = (unpackCaps caps r q i).2.1.map (·.1)
 | [], l, r, p, q, i => rfl
 | (b, t) :: caps, l, r, p, q, i => by
  have h1 := zME b t (getTV t l p) (getTV t r q) i; have h1' : (capInit b t (getTV t l p) i).2.length = (capInit b t (getTV t r q) i).2.length := by simpa using congrArg List.length h1
  rw [zBZ, zBZ]; simp only [List.map_append, h1, h1', zD8 caps l r (p + 1) (q + 1)]
theorem zQa (k : PK) (l r : List TV) (p q i : Nat) : (k.init l p i).2.1.map (·.1) = (k.init r q i).2.1.map (·.1) := by
 cases k with
 | ro t => exact zh _ t _ _ i
 | own t => exact zh _ t _ _ i
 | «mut» t => exact zh _ t _ _ i
 | rob t => simp only [PK.init, List.map_cons]; rw [zh .ro t _ (getTV t r q)]
 | box t => simp only [PK.init, List.map_cons]; rw [zh .own t _ (getTV t r q)]
 | boxr t => simp only [PK.init, List.map_cons]; rw [zh .ro t _ (getTV t r q)]
 | muts t => exact zh _ t _ _ i
 | shs t => exact zh _ t _ _ i
 | fn f caps => exact zD8 caps l r p q i
theorem zDs : ∀ (ks : List PK) (l r : List TV) (i p q : Nat), (initPs l ks i p).2.map (·.1) = (initPs r ks i q).2.map (·.1)
 | [], l, r, i, p, q => rfl
 | k :: ks, l, r, i, p, q => by
  simp only [initPs, List.map_append, zQa k l r p q, zDs ks l r (i + 1) (k.init l p (idOf i)).2.2 (k.init r q (idOf i)).2.2]
section
variable {P : Program} {E : Env} {fd : FD} {call : Oracle} {w0 : World} {X Y0 : Nat → Prop} {fix : List (Nat × Value)}
theorem jL {fd : FD} {s : St} {outs : List TV} (h : fd.finish E s = some outs) : ∃ ws xs us ro ys vs ro', resWs E s fd.fn.results.toList = some ws ∧ packRes s.ob fd.sig.res ws = some (xs, us, ro) ∧ backPs s fd.sig.params 0 = some (ys, vs, ro') ∧
  (us ++ vs).Nodup ∧ apart (ro ++ ro') (us ++ vs) = true ∧ outs = xs ++ ys := by
 unfold FD.finish at h
 split at h
 · rename_i ws hws
   split at h
   · rename_i xs us ro ys vs ro' h1 h2
     split at h
     · rename_i hc; simp only [Bool.and_eq_true, decide_eq_true_eq] at hc; simp only [Option.some.injEq] at h; exact ⟨ws, xs, us, ro, ys, vs, ro', hws, h1, h2, hc.1, hc.2, h.symm⟩
     · simp at h
   · simp at h
 · simp at h
theorem zSw (hE : EnvOk P E) (hcall : ∀ v fd' tvs outs, E.fd v = some fd' → call v tvs = some outs → FnSpec P E fd' tvs outs) : OpOk P E fd call w0 X Y0 fix := by
 intro s ρ col a w o e K Q h hdst he hK; have hfr := zKq he; have hst : stepO E fd call s (o.dst.getD 0) o.op = some e := by
  unfold opO at he; rw [Option.bind_eq_some_iff] at he; obtain ⟨e', h1, h2⟩ := he
  split at h2
  · simp only [Option.some.injEq] at h2; rw [← h2]; exact h1
  · simp at h2
 unfold stepO stepK at hst; have plain : ∀ e', step1 E fd s (o.dst.getD 0) o.op = some e' → e'.ok = true → e' = e → o.wp P a w K Q := by
  rintro e' h1 h2 rfl; obtain ⟨x, w', hr, ρ', col', hi⟩ := zLf hE.ty h hdst h1 h2 hfr; unfold Oper.wp
  rcases hr with hr | ⟨hr, rfl⟩
  · rw [hr]; exact hK ρ' col' _ _ hi
  · rw [hr]; exact hK ρ' col' _ _ hi
 split at hst
 · rename_i f args tys heq
   split at hst
   · rename_i g vs hcal; obtain ⟨caps, hfv, hvs⟩ : ∃ caps, s.eval f = .fn g caps ∧ vs = args.toList.map s.eval ++ caps.map V.w := by
      unfold V.callee at hcal
      split at hcal
      · rename_i f' caps e1; simp only [Option.some.injEq, Prod.mk.injEq] at hcal; obtain ⟨rfl, rfl⟩ := hcal; exact ⟨caps, e1, rfl⟩
      · simp at hcal
     obtain ⟨g1, g2⟩ := h.eval f (by rw [hfv]; simp); rw [hfv] at g1 g2; unfold callK at hst
     split at hst
     · rename_i fd' hfd
       split at hst
       · rename_i hidk; obtain ⟨hid, hkn⟩ := hidk; have hfx : fd'.fixed = fixedGo fd'.sig.params 0 := by simp [FD.fixed, FD.kept, hkn]
         split at hst
         · rename_i p hp
           split at hst
           · rename_i hc; simp only [Bool.and_eq_true] at hc; obtain ⟨hok, hfl⟩ := hc; rw [Option.bind_eq_some_iff] at hst; obtain ⟨outs, hcl, hst⟩ := hst; simp only [Option.some.injEq] at hst; obtain ⟨q1, q2, q3, q4, q5⟩ := hE.fn _ _ hfd
             let xs : List Value := args.toList.map a.eval ++ caps.map (wval ρ)
             have hlen := zGh hp; have hne := zEG hp; have hxl : xs.length = vs.length := by simp [xs, hvs]
             have hv : ∀ (i : Nat) (v : V) (x : Value), vs[i]? = some v → xs[i]? = some x → v ≠ .undef ∧ wfV s.ob ρ v ∧ x = vval ρ v := by
              intro i v x hvi hxi; have hvne := hne v (List.mem_of_getElem? hvi); refine ⟨hvne, ?_⟩; rw [hvs, List.getElem?_append] at hvi; simp only [xs] at hxi; rw [List.getElem?_append] at hxi; simp only [List.length_map] at hvi hxi
              split at hvi
              · rename_i hil; rw [if_pos hil] at hxi; rw [List.getElem?_map, Option.map_eq_some_iff] at hvi hxi; obtain ⟨z, hz, rfl⟩ := hvi; obtain ⟨z', hz', rfl⟩ := hxi; rw [hz] at hz'; simp only [Option.some.injEq] at hz'; subst hz'; exact h.eval z hvne
              · rename_i hil; rw [if_neg hil] at hxi; rw [List.getElem?_map, Option.map_eq_some_iff] at hvi hxi; obtain ⟨z, hz, rfl⟩ := hvi; obtain ⟨z', hz', rfl⟩ := hxi; rw [hz] at hz'; simp only [Option.some.injEq] at hz'; subst hz'; exact ⟨g1 z (List.mem_of_getElem? hz), rfl⟩
             have hnod : ((initPs p.tvs fd'.sig.params 0 0).2.map (·.1)).Nodup := by rw [zDs _ p.tvs [] 0 0 0]; exact q4
             obtain ⟨Lin, ρ1, objs, hL, _, _, _, hin⟩ := zTl h hp hok hfl hxl (fun i v x h1 h2 => .inr (hv i v x h1 h2).2) hnod q5 (fixOf fd' xs) (fun q hq => by
              simp only [fixOf, hfx, List.mem_map] at hq; obtain ⟨i, hi, rfl⟩ := hq; have := zF3 _ 0 i hi; exact ⟨by omega, rfl⟩)
             have hspec := hcall _ _ _ _ hfd hcl w _ _ _ _ xs (by omega) (Kept.nil hkn) hin; have hrun : (execOp a.eval o).run P w = .ok (.enter g xs.toArray) w := by
              rw [← hid]; rw [← hid] at g2; simp only [execOp, heq, resolve, g2, vval, Deferred.ofValue]; simp only [Sem.run_bind, Sem.run_pure, Result.andThen_ok, invoke, callFunc]; have q2' : ¬ fd'.fn.name = "runtime.NumGoroutine" := by simpa using q2
              have q3' : ¬ fd'.fn.body = none := fun e => by rw [e] at q3; simp at q3
              simp [q1, q2', q3', xs]
             unfold Oper.wp; rw [hrun, Oper.upon_enter, ← hid]; refine Calls.mono hspec ?_; rintro e' w' ⟨s', ρ', col', a', ws, rfl, hi', hfin, hws, hwf⟩; obtain ⟨ws2, xs', us, ro, ys, vs', ro', r1, r2, r3, r4, r5, rfl⟩ := jL hfin; rw [hws] at r1; simp only [Option.some.injEq] at r1; subst r1; have H0 : ∀ o m x, s.ob o = some (.box m x) → wfW s.ob ρ x ∧ (ρ o).len = (wcells ρ x).length := fun o m x hx => by obtain ⟨_, _, _, k1, k2, _⟩ := h.objs o _ hx; exact ⟨k1, k2⟩
             have H1 : ∀ o m x, s'.ob o = some (.box m x) → wfW s'.ob ρ' x ∧ (ρ' o).len = (wcells ρ' x).length := fun o m x hx => by obtain ⟨_, _, _, k1, k2, _⟩ := hi'.objs o _ hx; exact ⟨k1, k2⟩
             have hback := zLO (tm := s'.tm) (ρ0 := ρ) (ρ1 := ρ') H0 H1 hp r3 (fun j k v hj hvj hk hne' => by
              have hjl : j < vs.length := (List.getElem?_eq_some_iff.1 hvj).1; have hjx : xs[j]? = some xs[j] := List.getElem?_eq_getElem (by omega); obtain ⟨_, k1, k2⟩ := hv j v _ hvj hjx; rw [Nat.zero_add] at hne' ⊢; have hm : (j, xs.getD j Go.undef) ∈ fixOf fd' xs := by
               simp only [fixOf, hfx, List.mem_map]; exact ⟨j, by simpa using zHu (i := 0) hj hk, rfl⟩
              obtain ⟨m1, m2⟩ := hi'.fixed _ hm; simp only at m1 m2; obtain ⟨n1, n2⟩ := hi'.getD (t := j) rfl hne'; rw [Array.getD_eq_getD_getElem?, n1] at m2; simp only [Option.getD_some] at m2; refine ⟨?_, k1, n2⟩; rw [m2, ← k2, List.getD_eq_getElem?_getD, hjx]
              rfl)
             have hroK := zEI hp; have hqt : fd'.sig.quiet = true → fd'.sig.res.all (fun x => x.1 = .own) = true ∧ p.loud = false := by
              intro e; simp only [Sig.quiet, Bool.and_eq_true] at e; exact ⟨e.1, zFI hp e.2⟩
             rw [← hst] at hfr; simp only at hfr; obtain ⟨ρ2, col2, hfin2⟩ := zN6 (dst := o.dst) (d := o.dst.getD 0) (ok := true) (rd := p.ro.map (·.1) ++ p.excl) h hok hroK hfl hL.2.1 hi' hqt r2 hwf hback r4 r5 hdst hfr; refine hK ρ2 col2 _ _ ?_; rw [← hst]; exact hfin2
           · simp at hst
         · simp at hst
       · simp at hst
     · simp at hst
   · simp at hst
 · split at hst
   · rename_i e' he'
     cases hok : e'.ok with
     | false => simp [hok] at hst
     | true =>
      simp only [hok, cond, Option.some.injEq] at hst; exact plain e' he' hok hst
   · simp at hst
end
end Go.Ev
namespace Go.Ev
section
variable {P : Program} {E : Env}
theorem Sig.marks_spec {g : Sig} {u : Ty} {kk : IntKind} (h : g.marks u kk = true) : g.params = [.mut (.slice u), .ro (.int kk)] ∧ g.res = [(.own, false, .int kk)] := by
 unfold Sig.marks at h; rw [Bool.and_eq_true] at h; obtain ⟨h1, h2⟩ := h
 split at h1
 · rename_i u' k' hp; simp only [decide_eq_true_eq] at h1; obtain ⟨rfl, rfl⟩ := h1; refine ⟨hp, ?_⟩
   split at h2
   · rename_i k'' hr; simp only [decide_eq_true_eq] at h2; subst h2; exact hr
   · simp at h2
 · simp at h1
theorem zNx {fd2 : FD} {u : Ty} {kk : IntKind} (hm : fd2.sig.marks u kk = true) (hkn : fd2.keeps = []) (q5 : fd2.sig.params.length ≤ fd2.fn.ntmps) {zs : List u.den} {k0 : Int} {outs : List TV} (hspec : FnSpec P E fd2 [⟨.slice u, zs⟩, ⟨.int kk, k0⟩] outs)
  {w : World} {colX : Col} (hX : ∀ b o c, colX b = some (o, c) → o = 1000 ∧ b < w.heap.size) {addr : Option Addr} {cap : Nat} (hrow : RowW w true (fun b => colX b = some (1000, 0)) u.cells zs.length addr cap)
  (hel : Elems w true (fun i b => colX b = some (1000, i + 1)) u zs addr) :
  Calls P fd2.id #[.slice addr zs.length cap, .int kk k0] w fun e w' => e = .returned (.int kk (getTV (.int kk) outs 0)) ∧ w.heap.size ≤ w'.heap.size ∧ Like w w' ∧ (∀ b, b < w.heap.size → colX b = none → w'.heap[b]? = w.heap[b]?) ∧
   ∃ (col' : Col) (o' : Nat), (getTV (.slice u) outs 1).length = zs.length ∧ (∀ b o c, col' b = some (o, c) → (w.heap.size ≤ b ∨ colX b ≠ none) ∧ b < w'.heap.size) ∧
    RowW w' true (fun b => col' b = some (o', 0)) u.cells zs.length addr cap ∧ Elems w' true (fun i b => col' b = some (o', i + 1)) u (getTV (.slice u) outs 1) addr := by
 obtain ⟨hp, hr⟩ := Sig.marks_spec hm; have hinit : fd2.init [⟨.slice u, zs⟩, ⟨.int kk, k0⟩] = ⟨[.w (.c (.sl 1000)), .w (.c (.int kk k0))] ++ List.replicate (fd2.fn.ntmps - 2) .undef, Objs.none.upd 1000 (.row .own u zs)⟩ := by
  simp [FD.init, hp, initPs, PK.init, unpackW, Objs.upds, idOf, getTV]
 rw [hp] at q5; simp only [List.length_cons, List.length_nil] at q5
 have hin : Inv w (fun b => colX b ≠ none) (fun _ => True) (fixOf fd2 [.slice addr zs.length cap, .int kk k0]) (fd2.init [⟨.slice u, zs⟩, ⟨.int kk, k0⟩]) (fun _ => ⟨addr, zs.length, cap⟩) colX
   ⟨[.slice addr zs.length cap, .int kk k0].toArray ++ Array.replicate (fd2.fn.ntmps - [Value.slice addr zs.length cap, .int kk k0].length) undef, []⟩ w := by
  rw [hinit]
  refine ⟨rfl, by simp; omega, fun i v hi => ?_, fun o y hy => ?_, fun b o c hb => ?_, fun _ _ _ => rfl, Nat.le_refl _, fun q hq => ?_, Like.refl w⟩
  · match i with
    | 0 =>
     simp only [List.cons_append, List.getElem?_cons_zero, Option.some.injEq] at hi; subst hi; exact .inr ⟨by simp [wfV, wfW, wfC, Objs.upd], by simp [vval, wval, cval, Array.getElem?_append]⟩
    | 1 =>
     simp only [List.cons_append, List.getElem?_cons_succ, List.getElem?_cons_zero, Option.some.injEq] at hi; subst hi; exact .inr ⟨by simp [wfV, wfW, wfC], by simp [vval, wval, cval, Array.getElem?_append]⟩
    | i + 2 =>
     simp only [List.cons_append, List.nil_append, List.getElem?_cons_succ, List.getElem?_replicate] at hi
     split at hi
     · simp only [Option.some.injEq] at hi; exact .inl hi.symm
     · simp at hi
  · simp only [Objs.upd] at hy
    split at hy
    · rename_i ho; subst ho; simp only [Option.some.injEq] at hy; subst hy; exact ⟨rfl, hrow, hel⟩
    · simp [Objs.none] at hy
  · obtain ⟨g1, g2⟩ := hX b o c hb; subst g1; exact ⟨.inr (by simp [hb]), g2, by simp [Objs.upd]⟩
  · simp only [fixOf, FD.fixed, FD.kept, hkn, List.filter_nil, List.append_nil, hp, fixedGo, PK.isFixed, if_true, Bool.false_eq_true, if_false, List.map_cons, List.map_nil, List.mem_singleton] at hq; subst hq; exact ⟨by simp; omega, by simp [Array.getD_eq_getD_getElem?, Array.getElem?_append]⟩
 refine Calls.mono (hspec w _ _ _ _ [.slice addr zs.length cap, .int kk k0] (by rw [hp]; rfl) (Kept.nil hkn) hin) ?_; rintro e w' ⟨s', ρ', col', a', ws, rfl, hi', hfin, hws, hwf⟩; obtain ⟨ws2, xs, us, ro, ys, vs, ro', r1, r2, r3, r4, r5, rfl⟩ := jL hfin; rw [hws] at r1; simp only [Option.some.injEq] at r1; subst r1; rw [hr] at r2; rw [hp] at r3; obtain ⟨n, rfl, rfl⟩ : ∃ n, ws = [.c (.int kk n)] ∧ xs = [⟨.int kk, n⟩] := by
  match ws, r2 with
  | [v], r2 =>
   simp only [packRes] at r2
   split at r2
   · rename_i x1 u1 v1 x2 u2 v2 h1 h2; simp only [Option.some.injEq, Prod.mk.injEq] at h2 r2; obtain ⟨rfl, rfl, rfl⟩ := h2; obtain ⟨rfl, _, _⟩ := r2; simp only [packRes1] at h1
     split at h1
     · rename_i x us' hpk
       split at h1
       · simp only [Option.some.injEq, Prod.mk.injEq] at h1; obtain ⟨rfl, _, _⟩ := h1
         cases v with
         | c cc =>
          cases cc with
          | int k b =>
           simp only [packW] at hpk
           split at hpk
           · rename_i hk; subst hk; simp only [Option.some.injEq, Prod.mk.injEq] at hpk; obtain ⟨rfl, _⟩ := hpk; exact ⟨_, rfl, by simp⟩
           · simp at hpk
          | _ => simp [packW] at hpk
         | _ => simp [packW] at hpk
       · simp at h1
     · simp at h1
   · simp at r2
  | [], r2 => simp [packRes] at r2
  | _ :: _ :: _, r2 =>
   simp only [packRes] at r2
   split at r2
   · rename_i h2; simp at h2
   · simp at r2
 simp only [backPs] at r3
 split at r3
 · rename_i x1 u1 v1 x2 u2 v2 h1 h2
   simp only [PK.back, Option.some.injEq, Prod.mk.injEq, List.append_nil] at h2
   · obtain ⟨rfl, rfl, rfl⟩ := h2; simp only [Option.some.injEq, Prod.mk.injEq, List.append_nil] at r3; obtain ⟨rfl, rfl, rfl⟩ := r3; simp only [PK.back] at h1
     split at h1
     · rename_i v hv
       split at h1
       · rename_i x us' hpk
         split at h1
         · rename_i hown; simp only [Option.some.injEq, Prod.mk.injEq] at h1; obtain ⟨rfl, rfl, rfl⟩ := h1; have g0 : getTV (.int kk) ([(⟨.int kk, n⟩ : TV)] ++ [⟨.slice u, x⟩]) 0 = n := by simp [getTV]
           have g1 : getTV (.slice u) ([(⟨.int kk, n⟩ : TV)] ++ [⟨.slice u, x⟩]) 1 = x := by simp [getTV]
           rw [g0, g1]; refine ⟨rfl, hi'.mono, hi'.same, fun b hb hc => hi'.low b hb (by simp [hc]), col', ?_⟩; obtain ⟨f1, f2⟩ := hi'.fixed (0, .slice addr zs.length cap) (by simp [fixOf, FD.fixed, FD.kept, hkn, hp, fixedGo, PK.isFixed]); simp only at f1 f2; obtain ⟨m1, m2⟩ := hi'.getD (t := 0) (v := .w v) hv (by simp); rw [Array.getD_eq_getD_getElem?, m1] at f2; simp only [Option.getD_some, vval] at f2; have hcold : ∀ b o c, col' b = some (o, c) → (w.heap.size ≤ b ∨ colX b ≠ none) ∧ b < w'.heap.size := fun b o c hb => ⟨(hi'.cold b o c hb).1, (hi'.cold b o c hb).2.1⟩
           match v, hpk with
           | .c .nil, hpk =>
            simp only [packW, Option.some.injEq, Prod.mk.injEq] at hpk; obtain ⟨rfl, _⟩ := hpk; simp only [wval, cval, Value.slice.injEq] at f2; obtain ⟨rfl, h0, rfl⟩ := f2; refine ⟨0, h0, hcold, ?_, fun i y hy => by simp at hy⟩; rw [← h0]; exact ⟨Nat.le_refl _, fun _ => ⟨rfl, fun _ => rfl⟩, fun a ha => by simp at ha⟩
           | .c (.sl o'), hpk =>
            simp only [packW] at hpk
            split at hpk
            · rename_i m ys' hrw; simp only [Option.some.injEq, Prod.mk.injEq] at hpk; obtain ⟨rfl, rfl⟩ := hpk; simp only [List.all_cons, List.all_nil, Bool.and_true, decide_eq_true_eq] at hown; subst hown; obtain ⟨t1, t2, t3⟩ := hi'.row hrw; simp only [wval, cval, Value.slice.injEq] at f2; obtain ⟨e1, e2, e3⟩ := f2; rw [e1, e3] at t2; rw [e1] at t3; refine ⟨o', by rw [← t1, e2], hcold, ?_, t3⟩; rw [← e2, t1]; exact t2
            · simp at hpk
           | .c (.int _ _), hpk => simp [packW] at hpk
           | .c (.bool _), hpk => simp [packW] at hpk
           | .c (.ptr _ _ _ _), hpk => simp [packW] at hpk
           | .arr _ _ _, hpk => simp [packW] at hpk
           | .barr _ _, hpk => simp [packW] at hpk
           | .st _, hpk => simp [packW] at hpk
         · simp at h1
       · simp at h1
     · simp at h1
 · simp at r3
theorem Sig.sorts_spec {g : Sig} {u : Ty} {f2 : FuncId} (h : g.sorts u f2 = true) : g.params = [.mut (.slice u), .fn f2 []] ∧ g.res = [] := by
 unfold Sig.sorts at h; rw [Bool.and_eq_true] at h; obtain ⟨h1, h2⟩ := h
 split at h1
 · rename_i u' f' hp; simp only [decide_eq_true_eq] at h1; obtain ⟨rfl, rfl⟩ := h1; exact ⟨hp, List.isEmpty_iff.1 h2⟩
 · simp at h1
theorem zNn {fd2 : FD} {u : Ty} {f2 : FuncId} (hm : fd2.sig.sorts u f2 = true) (hkn : fd2.keeps = []) (q5 : fd2.sig.params.length ≤ fd2.fn.ntmps) {zs : List u.den} {outs : List TV} (hspec : FnSpec P E fd2 [⟨.slice u, zs⟩] outs)
  {w : World} {colX : Col} (hX : ∀ b o c, colX b = some (o, c) → o = 1000 ∧ b < w.heap.size) {addr : Option Addr} {cap : Nat} (hrow : RowW w true (fun b => colX b = some (1000, 0)) u.cells zs.length addr cap)
  (hel : Elems w true (fun i b => colX b = some (1000, i + 1)) u zs addr) :
  Calls P fd2.id #[.slice addr zs.length cap, .func (.func f2) #[] #[]] w fun e w' => e = .returned (.tuple #[]) ∧ w.heap.size ≤ w'.heap.size ∧ Like w w' ∧ (∀ b, b < w.heap.size → colX b = none → w'.heap[b]? = w.heap[b]?) ∧
   ∃ (col' : Col) (o' : Nat), (getTV (.slice u) outs 0).length = zs.length ∧ (∀ b o c, col' b = some (o, c) → (w.heap.size ≤ b ∨ colX b ≠ none) ∧ b < w'.heap.size) ∧
    RowW w' true (fun b => col' b = some (o', 0)) u.cells zs.length addr cap ∧ Elems w' true (fun i b => col' b = some (o', i + 1)) u (getTV (.slice u) outs 0) addr := by
 obtain ⟨hp, hr⟩ := Sig.sorts_spec hm; have hinit : fd2.init [⟨.slice u, zs⟩] = ⟨[.w (.c (.sl 1000)), .fn f2 []] ++ List.replicate (fd2.fn.ntmps - 2) .undef, Objs.none.upd 1000 (.row .own u zs)⟩ := by
  simp [FD.init, hp, initPs, PK.init, unpackW, unpackCaps, Objs.upds, idOf, getTV]
 rw [hp] at q5; simp only [List.length_cons, List.length_nil] at q5
 have hin : Inv w (fun b => colX b ≠ none) (fun _ => True) (fixOf fd2 [.slice addr zs.length cap, .func (.func f2) #[] #[]]) (fd2.init [⟨.slice u, zs⟩]) (fun _ => ⟨addr, zs.length, cap⟩) colX
   ⟨[.slice addr zs.length cap, .func (.func f2) #[] #[]].toArray ++ Array.replicate (fd2.fn.ntmps - [Value.slice addr zs.length cap, .func (.func f2) #[] #[]].length) undef, []⟩ w := by
  rw [hinit]
  refine ⟨rfl, by simp; omega, fun i v hi => ?_, fun o y hy => ?_, fun b o c hb => ?_, fun _ _ _ => rfl, Nat.le_refl _, fun q hq => ?_, Like.refl w⟩
  · match i with
    | 0 =>
     simp only [List.cons_append, List.getElem?_cons_zero, Option.some.injEq] at hi; subst hi; exact .inr ⟨by simp [wfV, wfW, wfC, Objs.upd], by simp [vval, wval, cval, Array.getElem?_append]⟩
    | 1 =>
     simp only [List.cons_append, List.getElem?_cons_succ, List.getElem?_cons_zero, Option.some.injEq] at hi; subst hi; exact .inr ⟨by simp [wfV, wfW, wfC], by simp [vval, wval, cval, Array.getElem?_append]⟩
    | i + 2 =>
     simp only [List.cons_append, List.nil_append, List.getElem?_cons_succ, List.getElem?_replicate] at hi
     split at hi
     · simp only [Option.some.injEq] at hi; exact .inl hi.symm
     · simp at hi
  · simp only [Objs.upd] at hy
    split at hy
    · rename_i ho; subst ho; simp only [Option.some.injEq] at hy; subst hy; exact ⟨rfl, hrow, hel⟩
    · simp [Objs.none] at hy
  · obtain ⟨g1, g2⟩ := hX b o c hb; subst g1; exact ⟨.inr (by simp [hb]), g2, by simp [Objs.upd]⟩
  · simp only [fixOf, FD.fixed, FD.kept, hkn, List.filter_nil, List.append_nil, hp, fixedGo, PK.isFixed, List.any_nil, if_true, Bool.false_eq_true, if_false, List.map_cons, List.map_nil, List.mem_singleton] at hq; subst hq; exact ⟨by simp; omega, by simp [Array.getD_eq_getD_getElem?, Array.getElem?_append]⟩
 refine Calls.mono (hspec w _ _ _ _ [.slice addr zs.length cap, .func (.func f2) #[] #[]] (by rw [hp]; rfl) (Kept.nil hkn) hin) ?_; rintro e w' ⟨s', ρ', col', a', ws, rfl, hi', hfin, hws, hwf⟩; obtain ⟨ws2, xs, us, ro, ys, vs, ro', r1, r2, r3, r4, r5, rfl⟩ := jL hfin; rw [hws] at r1; simp only [Option.some.injEq] at r1; subst r1; rw [hr] at r2; rw [hp] at r3; obtain ⟨rfl, rfl⟩ : ws = [] ∧ xs = [] := by
  match ws, r2 with
  | [], r2 =>
   simp only [packRes, Option.some.injEq, Prod.mk.injEq] at r2; exact ⟨rfl, r2.1.symm⟩
  | _ :: _, r2 => simp [packRes] at r2
 simp only [backPs] at r3
 split at r3
 · rename_i x1 u1 v1 x2 u2 v2 h1 h2
   simp only [PK.back, List.any_nil, Bool.false_eq_true, if_false, Option.some.injEq, Prod.mk.injEq, List.append_nil] at h2
   · obtain ⟨rfl, rfl, rfl⟩ := h2; simp only [Option.some.injEq, Prod.mk.injEq, List.append_nil] at r3; obtain ⟨rfl, rfl, rfl⟩ := r3; simp only [PK.back] at h1
     split at h1
     · rename_i v hv
       split at h1
       · rename_i x us' hpk
         split at h1
         · rename_i hown; simp only [Option.some.injEq, Prod.mk.injEq] at h1; obtain ⟨rfl, rfl, rfl⟩ := h1; have g1 : getTV (.slice u) (([] : List TV) ++ [⟨.slice u, x⟩]) 0 = x := by simp [getTV]
           rw [g1]; refine ⟨rfl, hi'.mono, hi'.same, fun b hb hc => hi'.low b hb (by simp [hc]), col', ?_⟩; obtain ⟨f1, f2⟩ := hi'.fixed (0, .slice addr zs.length cap) (by simp [fixOf, FD.fixed, FD.kept, hkn, hp, fixedGo, PK.isFixed]); simp only at f1 f2; obtain ⟨m1, m2⟩ := hi'.getD (t := 0) (v := .w v) hv (by simp); rw [Array.getD_eq_getD_getElem?, m1] at f2; simp only [Option.getD_some, vval] at f2; have hcold : ∀ b o c, col' b = some (o, c) → (w.heap.size ≤ b ∨ colX b ≠ none) ∧ b < w'.heap.size := fun b o c hb => ⟨(hi'.cold b o c hb).1, (hi'.cold b o c hb).2.1⟩
           match v, hpk with
           | .c .nil, hpk =>
            simp only [packW, Option.some.injEq, Prod.mk.injEq] at hpk; obtain ⟨rfl, _⟩ := hpk; simp only [wval, cval, Value.slice.injEq] at f2; obtain ⟨rfl, h0, rfl⟩ := f2; refine ⟨0, h0, hcold, ?_, fun i y hy => by simp at hy⟩; rw [← h0]; exact ⟨Nat.le_refl _, fun _ => ⟨rfl, fun _ => rfl⟩, fun a ha => by simp at ha⟩
           | .c (.sl o'), hpk =>
            simp only [packW] at hpk
            split at hpk
            · rename_i m ys' hrw; simp only [Option.some.injEq, Prod.mk.injEq] at hpk; obtain ⟨rfl, rfl⟩ := hpk; simp only [List.all_cons, List.all_nil, Bool.and_true, decide_eq_true_eq] at hown; subst hown; obtain ⟨t1, t2, t3⟩ := hi'.row hrw; simp only [wval, cval, Value.slice.injEq] at f2; obtain ⟨e1, e2, e3⟩ := f2; rw [e1, e3] at t2; rw [e1] at t3; refine ⟨o', by rw [← t1, e2], hcold, ?_, t3⟩; rw [← e2, t1]; exact t2
            · simp at hpk
           | .c (.int _ _), hpk => simp [packW] at hpk
           | .c (.bool _), hpk => simp [packW] at hpk
           | .c (.ptr _ _ _ _), hpk => simp [packW] at hpk
           | .arr _ _ _, hpk => simp [packW] at hpk
           | .barr _ _, hpk => simp [packW] at hpk
           | .st _, hpk => simp [packW] at hpk
         · simp at h1
       · simp at h1
     · simp at h1
 · simp at r3
theorem Sig.dels_spec {g : Sig} {u : Ty} {f2 : FuncId} (h : g.dels u f2 = true) : g.params = [.own (.slice u), .fn f2 []] ∧ g.res = [(.own, false, .slice u)] := by
 unfold Sig.dels at h; rw [Bool.and_eq_true] at h; obtain ⟨h1, h2⟩ := h
 split at h1
 · rename_i u' f' hp; simp only [decide_eq_true_eq] at h1; obtain ⟨rfl, rfl⟩ := h1; refine ⟨hp, ?_⟩
   split at h2
   · rename_i u'' hr; simp only [decide_eq_true_eq] at h2; subst h2; exact hr
   · simp at h2
 · simp at h1
theorem zPn {fd2 : FD} {u : Ty} {f2 : FuncId} (hm : fd2.sig.dels u f2 = true) (hkn : fd2.keeps = []) (q5 : fd2.sig.params.length ≤ fd2.fn.ntmps) {zs : List u.den} {outs : List TV} (hspec : FnSpec P E fd2 [⟨.slice u, zs⟩] outs)
  {w : World} {colX : Col} (hX : ∀ b o c, colX b = some (o, c) → o = 1000 ∧ b < w.heap.size) {addr : Option Addr} {cap : Nat} (hrow : RowW w true (fun b => colX b = some (1000, 0)) u.cells zs.length addr cap)
  (hel : Elems w true (fun i b => colX b = some (1000, i + 1)) u zs addr) :
  Calls P fd2.id #[.slice addr zs.length cap, .func (.func f2) #[] #[]] w fun e w' => w.heap.size ≤ w'.heap.size ∧ Like w w' ∧ (∀ b, b < w.heap.size → colX b = none → w'.heap[b]? = w.heap[b]?) ∧
   ∃ (col' : Col) (o' : Nat) (addr' : Option Addr) (cap' : Nat), e = .returned (.slice addr' (getTV (.slice u) outs 0).length cap') ∧ (∀ b o c, col' b = some (o, c) → (w.heap.size ≤ b ∨ colX b ≠ none) ∧ b < w'.heap.size) ∧
    RowW w' true (fun b => col' b = some (o', 0)) u.cells (getTV (.slice u) outs 0).length addr' cap' ∧ Elems w' true (fun i b => col' b = some (o', i + 1)) u (getTV (.slice u) outs 0) addr' := by
 obtain ⟨hp, hr⟩ := Sig.dels_spec hm; have hinit : fd2.init [⟨.slice u, zs⟩] = ⟨[.w (.c (.sl 1000)), .fn f2 []] ++ List.replicate (fd2.fn.ntmps - 2) .undef, Objs.none.upd 1000 (.row .own u zs)⟩ := by
  simp [FD.init, hp, initPs, PK.init, unpackW, unpackCaps, Objs.upds, idOf, getTV]
 rw [hp] at q5; simp only [List.length_cons, List.length_nil] at q5
 have hin : Inv w (fun b => colX b ≠ none) (fun _ => True) (fixOf fd2 [.slice addr zs.length cap, .func (.func f2) #[] #[]]) (fd2.init [⟨.slice u, zs⟩]) (fun _ => ⟨addr, zs.length, cap⟩) colX
   ⟨[.slice addr zs.length cap, .func (.func f2) #[] #[]].toArray ++ Array.replicate (fd2.fn.ntmps - [Value.slice addr zs.length cap, .func (.func f2) #[] #[]].length) undef, []⟩ w := by
  rw [hinit]
  refine ⟨rfl, by simp; omega, fun i v hi => ?_, fun o y hy => ?_, fun b o c hb => ?_, fun _ _ _ => rfl, Nat.le_refl _, fun q hq => ?_, Like.refl w⟩
  · match i with
    | 0 =>
     simp only [List.cons_append, List.getElem?_cons_zero, Option.some.injEq] at hi; subst hi; exact .inr ⟨by simp [wfV, wfW, wfC, Objs.upd], by simp [vval, wval, cval, Array.getElem?_append]⟩
    | 1 =>
     simp only [List.cons_append, List.getElem?_cons_succ, List.getElem?_cons_zero, Option.some.injEq] at hi; subst hi; exact .inr ⟨by simp [wfV, wfW, wfC], by simp [vval, wval, cval, Array.getElem?_append]⟩
    | i + 2 =>
     simp only [List.cons_append, List.nil_append, List.getElem?_cons_succ, List.getElem?_replicate] at hi
     split at hi
     · simp only [Option.some.injEq] at hi; exact .inl hi.symm
     · simp at hi
  · simp only [Objs.upd] at hy
    split at hy
    · rename_i ho; subst ho; simp only [Option.some.injEq] at hy; subst hy; exact ⟨rfl, hrow, hel⟩
    · simp [Objs.none] at hy
  · obtain ⟨g1, g2⟩ := hX b o c hb; subst g1; exact ⟨.inr (by simp [hb]), g2, by simp [Objs.upd]⟩
  · simp [fixOf, FD.fixed, FD.kept, hkn, hp, fixedGo, PK.isFixed] at hq
 refine Calls.mono (hspec w _ _ _ _ [.slice addr zs.length cap, .func (.func f2) #[] #[]] (by rw [hp]; rfl) (Kept.nil hkn) hin) ?_; rintro e w' ⟨s', ρ', col', a', ws, rfl, hi', hfin, hws, hwf⟩; obtain ⟨ws2, xs, us, ro, ys, vs, ro', r1, r2, r3, r4, r5, rfl⟩ := jL hfin; rw [hws] at r1; simp only [Option.some.injEq] at r1; subst r1; rw [hr] at r2; refine ⟨hi'.mono, hi'.same, fun b hb hc => hi'.low b hb (by simp [hc]), col', ?_⟩; have hcold : ∀ b o c, col' b = some (o, c) → (w.heap.size ≤ b ∨ colX b ≠ none) ∧ b < w'.heap.size := fun b o c hb => ⟨(hi'.cold b o c hb).1, (hi'.cold b o c hb).2.1⟩
 match ws, r2 with
 | [v], r2 =>
  simp only [packRes] at r2
  split at r2
  · rename_i x1 u1 v1 x2 u2 v2 h1 h2; simp only [Option.some.injEq, Prod.mk.injEq] at h2 r2; obtain ⟨rfl, rfl, rfl⟩ := h2; obtain ⟨rfl, _, _⟩ := r2; simp only [packRes1] at h1
    split at h1
    · rename_i x us' hpk
      split at h1
      · rename_i hown; simp only [Option.some.injEq, Prod.mk.injEq] at h1; obtain ⟨rfl, _, _⟩ := h1; have g1 : getTV (.slice u) (([(⟨.slice u, x⟩ : TV)] ++ []) ++ ys) 0 = x := by simp [getTV]
        rw [g1]
        match v, hpk with
        | .c .nil, hpk =>
         simp only [packW, Option.some.injEq, Prod.mk.injEq] at hpk; obtain ⟨rfl, _⟩ := hpk; exact ⟨0, none, 0, rfl, hcold, ⟨Nat.le_refl _, fun _ => ⟨rfl, fun _ => rfl⟩, fun a ha => by simp at ha⟩, fun i y hy => by simp at hy⟩
        | .c (.sl o'), hpk =>
         simp only [packW] at hpk
         split at hpk
         · rename_i m ys' hrw; simp only [Option.some.injEq, Prod.mk.injEq] at hpk; obtain ⟨rfl, rfl⟩ := hpk; have hm : m = .own := by
            simp only [List.all_cons, List.all_nil, Bool.and_true] at hown
            cases m <;> simp_all [Mode.le]
           subst hm; obtain ⟨t1, t2, t3⟩ := hi'.row hrw; refine ⟨o', (ρ' o').addr, (ρ' o').cap, ?_, hcold, t2, t3⟩; rw [← t1]
           rfl
         · simp at hpk
        | .c (.int _ _), hpk => simp [packW] at hpk
        | .c (.bool _), hpk => simp [packW] at hpk
        | .c (.ptr _ _ _ _), hpk => simp [packW] at hpk
        | .arr _ _ _, hpk => simp [packW] at hpk
        | .barr _ _, hpk => simp [packW] at hpk
        | .st _, hpk => simp [packW] at hpk
      · simp at h1
    · simp at h1
  · simp at r2
 | [], r2 => simp [packRes] at r2
 | _ :: _ :: _, r2 =>
  simp only [packRes] at r2
  split at r2
  · rename_i h2; simp at h2
  · simp at r2
end
end Go.Ev
namespace Go.Ev
theorem ObjRel.frameOwn {ob ob' : Objs} {ρ : Locs} {col col' : Col} {Y Y' : Nat → Prop} {w w' : World} {o : Nat} {x : Obj} (h : ObjRel ob ρ col Y w o x) (hx : x.own = true)
  (hs : Stays ob ob' ρ ρ) (hsz : w.heap.size ≤ w'.heap.size) (hown : ∀ b c, b < w.heap.size → col b = some (o, c) → col' b = some (o, c) ∧ w'.heap[b]? = w.heap[b]?) :
  ObjRel ob' ρ col' Y' w' o x := by
 cases x with
 | dead => trivial
 | box m x =>
  cases m with
  | own =>
   obtain ⟨b, h1, h2, h3, h4, h5, h6, h7⟩ := h; obtain ⟨g1, g2⟩ := hown b 0 h2 h6
   refine ⟨b, h1, Nat.lt_of_lt_of_le h2 hsz, hs.wfW h3, by rw [hs.wcells h3]; exact h4, ?_, g1, ?_⟩
   · intro j v hv; rw [hs.wcells h3] at hv; simpa only [World.cell?, g2] using h5 j v hv
   · intro hm; rw [g2]; exact h7 hm
  | sh => simp [Obj.own] at hx
  | ro => simp [Obj.own] at hx
 | row m t xs =>
  cases m with
  | own =>
   obtain ⟨h1, h2, h3⟩ := h; refine ⟨h1, h2.frame id hsz (fun b hb hok => hown b 0 hb hok), Elems.frame id hsz (fun i _ b hb hok => hown b (i + 1) hb hok) (fun hl a ha => ?_) h3⟩; obtain ⟨_, k2, k3, _⟩ := h2.2.2 a ha (.inl hl); exact (hown _ 0 k2 k3).2
  | sh => simp [Obj.own] at hx
  | ro => simp [Obj.own] at hx
theorem zAK {ob : Objs} {o : Nat} : killRo ob o = none ↔ ob o = none := by
 unfold killRo; split <;> simp_all
theorem zMt {ob : Objs} {o o' : Nat} {x : Obj} (h : ob o' ≠ none) : (ob.upd o x) o' ≠ none := by
 simp only [Objs.upd]
 split
 · simp
 · exact h
theorem zNz {ob : Objs} {o : Nat} {x : Obj} (h : killRo ob o = some x) : x = .dead ∨ (x.own = true ∧ ob o = some x) := by
 unfold killRo at h
 split at h
 · rename_i t xs hx; simp only [Option.some.injEq] at h; subst h; exact .inr ⟨rfl, hx⟩
 · rename_i y hx; simp only [Option.some.injEq] at h; subst h; exact .inr ⟨rfl, hx⟩
 · simp only [Option.some.injEq] at h; exact .inl h.symm
 · simp at h
section
variable {w0 : World} {X Y0 : Nat → Prop} {fix : List (Nat × Value)} {s : St} {ρ : Locs} {col : Col} {a : Act} {w : World}
def backCol (col colX col' : Col) (n o o' : Nat) (f : Nat → Nat) : Col := fun b =>
 match col' b with
 | some (o2, c) => if o2 = o' then some (o, f c) else none
 | none => if b < n ∧ colX b = none then col b else none
theorem jb {col colX col' : Col} {n o o' b c : Nat} {f : Nat → Nat} (h : col' b = some (o', c)) : backCol col colX col' n o o' f b = some (o, f c) := by
 simp [backCol, h]
theorem zIU {col colX col' : Col} {n o o' b : Nat} {f : Nat → Nat} (hc : ∀ b o c, col' b = some (o, c) → (n ≤ b ∨ colX b ≠ none)) (hb : b < n) (hx : colX b = none) : backCol col colX col' n o o' f b = col b := by
 have : col' b = none := by
  cases h : col' b with
  | none => rfl
  | some y =>
   obtain ⟨o2, c⟩ := y
   rcases hc b o2 c h with g | g
   · omega
   · exact absurd hx g
 simp [backCol, this, hb, hx]
theorem Inv.back (h : Inv w0 X Y0 fix s ρ col a w) {colX col' : Col} {w' : World} {o o' : Nat} {f : Nat → Nat} {obj : Obj} (hsz : w.heap.size ≤ w'.heap.size) (hlike : Like w w') (ho : s.ob o ≠ none)
  (hX : ∀ b, colX b ≠ none → ∃ c, col b = some (o, c)) (hlow : ∀ b, b < w.heap.size → colX b = none → w'.heap[b]? = w.heap[b]?)
  (hc : ∀ b o c, col' b = some (o, c) → (w.heap.size ≤ b ∨ colX b ≠ none) ∧ b < w'.heap.size)
  (hobj : ObjRel ((killRo s.ob).upd o obj) ρ (backCol col colX col' w.heap.size o o' f) (Yof w0 X Y0) w' o obj) :
  Inv w0 X Y0 fix ⟨s.tm, (killRo s.ob).upd o obj⟩ ρ (backCol col colX col' w.heap.size o o' f) a w' := by
 have hc1 : ∀ b o c, col' b = some (o, c) → (w.heap.size ≤ b ∨ colX b ≠ none) := fun b o c hb => (hc b o c hb).1; have hst : Stays s.ob ((killRo s.ob).upd o obj) ρ ρ := fun o2 h2 => ⟨by
  simp only [Objs.upd]
  split
  · simp
  · rwa [ne_eq, zAK], rfl⟩
 refine ⟨h.defers, h.size, fun i v hi => hst.vrel (h.tmps i v hi), fun o2 x hx => ?_, fun b o2 c hb => ?_, fun b hb hx => ?_, Nat.le_trans h.mono hsz, h.fixed, h.same.trans hlike⟩
 · by_cases e : o2 = o
   · subst e; simp only [Objs.upd, if_true, Option.some.injEq] at hx; subst hx; exact hobj
   · simp only [Objs.upd, if_neg e] at hx
     rcases zNz hx with rfl | ⟨g1, g2⟩
     · trivial
     · refine (h.objs o2 x g2).frameOwn g1 hst hsz (fun b c hb hcol => ?_); have hn : colX b = none := by
        cases hh : colX b with
        | none => rfl
        | some y =>
         obtain ⟨c', hc'⟩ := hX b (by rw [hh]; simp); rw [hcol] at hc'; simp only [Option.some.injEq, Prod.mk.injEq] at hc'; exact absurd hc'.1 e
       exact ⟨by rw [zIU hc1 hb hn]; exact hcol, hlow b hb hn⟩
 · have hne : ((killRo s.ob).upd o obj) o2 ≠ none ↔ s.ob o2 ≠ none := by
    simp only [Objs.upd]
    split
    · rename_i e; subst e; simp [ho]
    · rw [ne_eq, zAK]
   unfold backCol at hb
   split at hb
   · rename_i o3 c3 h3
     split at hb
     · simp only [Option.some.injEq, Prod.mk.injEq] at hb; obtain ⟨rfl, rfl⟩ := hb; obtain ⟨g1, g2⟩ := hc b o3 c3 h3; refine ⟨?_, g2, hne.2 ho⟩
       rcases g1 with g1 | g1
       · exact .inl (Nat.le_trans h.mono g1)
       · obtain ⟨c', hc'⟩ := hX b g1; exact (h.cold b _ _ hc').1
     · simp at hb
   · split at hb
     · obtain ⟨g1, g2, g3⟩ := h.cold b o2 c hb; exact ⟨g1, by omega, hne.2 g3⟩
     · simp at hb
 · have hn : colX b = none := by
    cases hh : colX b with
    | none => rfl
    | some y =>
     obtain ⟨c', hc'⟩ := hX b (by rw [hh]; simp)
     rcases (h.cold b _ _ hc').1 with g | g
     · omega
     · exact absurd g hx
   rw [hlow b (by have := h.mono; omega) hn]; exact h.low b hb hx
theorem Ty.leaf_lt : ∀ {t : Ty} {x : t.den} {j : Nat} {y : (u : Ty) × List u.den}, t.leaf x j = some y → j < t.cells
 | .slice u, x, j, y, h => by
  cases j with
  | zero => simp [Ty.cells]
  | succ j => simp [Ty.leaf] at h
 | .pair a b, x, j, y, h => by
  simp only [Ty.leaf] at h; simp only [Ty.cells]
  split at h
  · omega
  · have := Ty.leaf_lt h; omega
 | .int _, _, _, _, h => by simp [Ty.leaf] at h
 | .bool, _, _, _, h => by simp [Ty.leaf] at h
 | .arr _ _, _, _, _, h => by simp [Ty.leaf] at h
 | .barr _, _, _, _, h => by simp [Ty.leaf] at h
theorem Ty.nsl_flat : ∀ {t : Ty}, t.nsl = 0 → t.flat = true
 | .slice u, h => by simp [Ty.nsl] at h
 | .pair a b, h => by
  simp only [Ty.nsl] at h; simp only [Ty.flat, Bool.and_eq_true]; exact ⟨Ty.nsl_flat (by omega), Ty.nsl_flat (by omega)⟩
 | .int _, _ => rfl
 | .bool, _ => rfl
 | .arr _ _, _ => rfl
 | .barr _, _ => rfl
theorem Ty.leaf_nsl : ∀ {t : Ty} {x : t.den} {j : Nat} {y : (u : Ty) × List u.den}, t.leaf x j = some y → 1 ≤ t.nsl
 | .slice u, x, j, y, h => by simp [Ty.nsl]
 | .pair a b, x, j, y, h => by
  simp only [Ty.leaf] at h; simp only [Ty.nsl]
  split at h
  · have := Ty.leaf_nsl h; omega
  · have := Ty.leaf_nsl h; omega
 | .int _, _, _, _, h => by simp [Ty.leaf] at h
 | .bool, _, _, _, h => by simp [Ty.leaf] at h
 | .arr _ _, _, _, _, h => by simp [Ty.leaf] at h
 | .barr _, _, _, _, h => by simp [Ty.leaf] at h
theorem zJp {own : Bool} {ok : Nat → Prop} : ∀ {t : Ty} {x : t.den} {ys : List Value} {j : Nat} {u : Ty} {zs : List u.den}, TRep w own ok t x ys → t.leaf x j = some ⟨u, zs⟩ → t.nsl = 1 →
  ∃ addr cap, ys[j]? = some (.slice addr zs.length cap) ∧ RowW w own ok u.cells zs.length addr cap ∧ Elems w own (fun _ => ok) u zs addr ∧
   ∀ (w' : World) (own' : Bool) (ok' : Nat → Prop) (zs' : List u.den), zs'.length = zs.length → RowW w' own' ok' u.cells zs.length addr cap → Elems w' own' (fun _ => ok') u zs' addr → TRep w' own' ok' t (t.setLeaf x j u zs') ys
 | .slice u', x, ys, j, u, zs, h, hl, _ => by
  cases j with
  | succ j => simp [Ty.leaf] at hl
  | zero =>
   simp only [Ty.leaf, Option.some.injEq, Sigma.mk.injEq] at hl; obtain ⟨rfl, hl⟩ := hl; have hl := eq_of_heq hl; subst hl; simp only [TRep] at h; obtain ⟨addr, cap, rfl, h1, h2⟩ := h; refine ⟨addr, cap, rfl, h1, h2, fun w' own' ok' zs' hz g1 g2 => ?_⟩; simp only [Ty.setLeaf, dif_pos, TRep]; exact ⟨addr, cap, by rw [hz], by rw [hz]; exact g1, g2⟩
 | .pair a b, x, ys, j, u, zs, h, hl, hn => by
  simp only [TRep] at h; obtain ⟨c1, c2, rfl, h1, h2⟩ := h; simp only [Ty.leaf] at hl; simp only [Ty.nsl] at hn
  by_cases hj : j < a.cells
  · rw [if_pos hj] at hl; have := Ty.leaf_nsl hl; obtain ⟨addr, cap, g1, g2, g3, g4⟩ := zJp h1 hl (by omega)
    refine ⟨addr, cap, ?_, g2, g3, fun w' own' ok' zs' hz k1 k2 => ?_⟩
    · rw [List.getElem?_append_left (by rw [h1.len]; exact hj)]; exact g1
    · simp only [Ty.setLeaf, if_pos hj, TRep]; exact ⟨c1, c2, rfl, g4 w' own' ok' zs' hz k1 k2, h2.flat (Ty.nsl_flat (by omega)) w' own' ok'⟩
  · rw [if_neg hj] at hl; have := Ty.leaf_nsl hl; obtain ⟨addr, cap, g1, g2, g3, g4⟩ := zJp h2 hl (by omega)
    refine ⟨addr, cap, ?_, g2, g3, fun w' own' ok' zs' hz k1 k2 => ?_⟩
    · rw [List.getElem?_append_right (by rw [h1.len]; omega), h1.len]; exact g1
    · simp only [Ty.setLeaf, if_neg hj, TRep]; exact ⟨c1, c2, rfl, h1.flat (Ty.nsl_flat (by omega)) w' own' ok', g4 w' own' ok' zs' hz k1 k2⟩
 | .int _, _, _, _, _, _, _, h, _ => by simp [Ty.leaf] at h
 | .bool, _, _, _, _, _, _, h, _ => by simp [Ty.leaf] at h
 | .arr _ _, _, _, _, _, _, _, h, _ => by simp [Ty.leaf] at h
 | .barr _, _, _, _, _, _, _, h, _ => by simp [Ty.leaf] at h
end
end Go.Ev
namespace Go.Ev
section
variable {P : Program} {E : Env} {fd : FD} {call : Oracle} {w0 : World} {X Y0 : Nat → Prop} {fix : List (Nat × Value)}
theorem zg {ops : Array Oper} {Q : Exit → Act → World → Prop} {i : Nat} {rest : List Nat} {o : Oper} {a : Act} {w : World} (ho : ops[i]? = some o) (hg : o.guard = none) (h : o.wp P a w (wpOps P ops Q rest) Q) :
  wpOps P ops Q (i :: rest) a w := by
 rw [wpOps_cons]; unfold wpOp; simp only [ho, Region.wanted, hg, if_true]; exact .inl h
theorem jc (hop : OpOk P E fd call w0 X Y0 fix) (hfix : fix.map (·.1) = fd.fixed) {ops : Array Oper} {Q : Exit → Act → World → Prop} {r : List Oper} {s s' : St} {xs : List (Option Eff)}
  (t : Trace E fd call ops r s xs s') (tail : List Nat) : ∀ (po pr : List Oper) (ρ : Locs) (col : Col) (a : Act) (w : World), ops.toList = po ++ r ++ pr → Inv w0 X Y0 fix s ρ col a w →
  (∀ ρ' col' a' w', Inv w0 X Y0 fix s' ρ' col' a' w' → wpOps P ops Q tail a' w') → wpOps P ops Q (List.range' po.length r.length ++ tail) a w := by
 induction t with
 | nil s => intro po pr ρ col a w _ h hQ; simpa using hQ ρ col a w h
 | @cons o r s s' x xs hx t ih =>
  intro po pr ρ col a w hr h hQ; have ho : ops[po.length]? = some o := by
   rw [← Array.getElem?_toList, hr]; simp
  rw [List.length_cons, List.range'_succ, List.cons_append, wpOps_cons]; refine zFu hop hfix h ho hx (fun ρ' col' a' w' h' => ?_); have := ih (po ++ [o]) pr ρ' col' a' w' (by simp [hr]) h' hQ; simpa using this
variable {s : St} {ρ : Locs} {col : Col} {a : Act} {w : World}
theorem zPG (hE : EnvOk P E) (hcall : ∀ v fd' tvs outs, E.fd v = some fd' → call v tvs = some outs → FnSpec P E fd' tvs outs) (h : Inv w0 X Y0 fix s ρ col a w) {o3 : Oper} {f v : FuncId} {args : Array Operand} {tys : Array TypeId} {fd2 : FD}
  (heq : o3.op = .call { callee := .value (.func f), args := args, argTypes := tys }) (hfd : E.fd v = some fd2) (hid : fd2.id = f) (hkn : fd2.keeps = []) {u : Ty} {kk : IntKind} (hm : fd2.sig.marks u kk = true) {zs : List u.den} {k0 : Int} {outs : List TV}
  (hcl : call v [⟨.slice u, zs⟩, ⟨.int kk, k0⟩] = some outs) {addr : Option Addr} {cap : Nat} (hargs : args.toList.map a.eval = [.slice addr zs.length cap, .int kk k0]) {colX : Col}
  (hX : ∀ b o c, colX b = some (o, c) → o = 1000 ∧ b < w.heap.size) (hrow : RowW w true (fun b => colX b = some (1000, 0)) u.cells zs.length addr cap)
  (hel : Elems w true (fun i b => colX b = some (1000, i + 1)) u zs addr) {K : Act → World → Prop} {Q : Exit → Act → World → Prop}
  (hK : ∀ w', w.heap.size ≤ w'.heap.size → Like w w' → (∀ b, b < w.heap.size → colX b = none → w'.heap[b]? = w.heap[b]?) → ∀ (col' : Col) (o' : Nat), (getTV (.slice u) outs 1).length = zs.length →
   (∀ b o c, col' b = some (o, c) → (w.heap.size ≤ b ∨ colX b ≠ none) ∧ b < w'.heap.size) → RowW w' true (fun b => col' b = some (o', 0)) u.cells zs.length addr cap →
   Elems w' true (fun i b => col' b = some (o', i + 1)) u (getTV (.slice u) outs 1) addr → K (a.put o3.dst (.int kk (getTV (.int kk) outs 0))) w') : o3.wp P a w K Q := by
 obtain ⟨q1, q2, q3, q4, q5⟩ := hE.fn _ _ hfd; have g2 : a.eval (.func f) = vval ρ (.fn f []) := (h.eval (.func f) (by simp [St.eval])).2; have hrun : (execOp a.eval o3).run P w = .ok (.enter f #[.slice addr zs.length cap, .int kk k0]) w := by
  rw [← hid]; rw [← hid] at g2; have hm : args.map a.eval = #[.slice addr zs.length cap, .int kk k0] := by
   apply Array.toList_inj.1; rw [Array.toList_map]; exact hargs
  subst hid; simp only [execOp, heq, resolve, g2, vval, Deferred.ofValue]; simp only [Sem.run_bind, Sem.run_pure, Result.andThen_ok, invoke, callFunc]; have q2' : ¬ fd2.fn.name = "runtime.NumGoroutine" := by simpa using q2
  have q3' : ¬ fd2.fn.body = none := fun e => by rw [e] at q3; simp at q3
  simp [q1, q2', q3', hm]
 unfold Oper.wp; rw [hrun, Oper.upon_enter, ← hid]; refine Calls.mono (zNx hm hkn q5 (hcall _ _ _ _ hfd hcl) hX hrow hel) ?_; rintro e w' ⟨rfl, g1, g2, g3, col', o', g4, g5, g6, g7⟩; exact hK w' g1 g2 g3 col' o' g4 g5 g6 g7
theorem zRp (hE : EnvOk P E) (hcall : ∀ v fd' tvs outs, E.fd v = some fd' → call v tvs = some outs → FnSpec P E fd' tvs outs) (h : Inv w0 X Y0 fix s ρ col a w) {o3 : Oper} {f v : FuncId} {args : Array Operand} {tys : Array TypeId} {fd2 : FD}
  (heq : o3.op = .call { callee := .value (.func f), args := args, argTypes := tys }) (hfd : E.fd v = some fd2) (hid : fd2.id = f) (hkn : fd2.keeps = []) {u : Ty} {f2 : FuncId} (hm : fd2.sig.sorts u f2 = true) {zs : List u.den} {outs : List TV}
  (hcl : call v [⟨.slice u, zs⟩] = some outs) {addr : Option Addr} {cap : Nat} (hargs : args.toList.map a.eval = [.slice addr zs.length cap, .func (.func f2) #[] #[]]) {colX : Col}
  (hX : ∀ b o c, colX b = some (o, c) → o = 1000 ∧ b < w.heap.size) (hrow : RowW w true (fun b => colX b = some (1000, 0)) u.cells zs.length addr cap)
  (hel : Elems w true (fun i b => colX b = some (1000, i + 1)) u zs addr) {K : Act → World → Prop} {Q : Exit → Act → World → Prop}
  (hK : ∀ w', w.heap.size ≤ w'.heap.size → Like w w' → (∀ b, b < w.heap.size → colX b = none → w'.heap[b]? = w.heap[b]?) → ∀ (col' : Col) (o' : Nat), (getTV (.slice u) outs 0).length = zs.length →
   (∀ b o c, col' b = some (o, c) → (w.heap.size ≤ b ∨ colX b ≠ none) ∧ b < w'.heap.size) → RowW w' true (fun b => col' b = some (o', 0)) u.cells zs.length addr cap →
   Elems w' true (fun i b => col' b = some (o', i + 1)) u (getTV (.slice u) outs 0) addr → K (a.put o3.dst (.tuple #[])) w') : o3.wp P a w K Q := by
 obtain ⟨q1, q2, q3, q4, q5⟩ := hE.fn _ _ hfd; have g2 : a.eval (.func f) = vval ρ (.fn f []) := (h.eval (.func f) (by simp [St.eval])).2; have hrun : (execOp a.eval o3).run P w = .ok (.enter f #[.slice addr zs.length cap, .func (.func f2) #[] #[]]) w := by
  rw [← hid]; rw [← hid] at g2; have hm : args.map a.eval = #[.slice addr zs.length cap, .func (.func f2) #[] #[]] := by
   apply Array.toList_inj.1; rw [Array.toList_map]; exact hargs
  subst hid; simp only [execOp, heq, resolve, g2, vval, Deferred.ofValue]; simp only [Sem.run_bind, Sem.run_pure, Result.andThen_ok, invoke, callFunc]; have q2' : ¬ fd2.fn.name = "runtime.NumGoroutine" := by simpa using q2
  have q3' : ¬ fd2.fn.body = none := fun e => by rw [e] at q3; simp at q3
  simp [q1, q2', q3', hm]
 unfold Oper.wp; rw [hrun, Oper.upon_enter, ← hid]; refine Calls.mono (zNn hm hkn q5 (hcall _ _ _ _ hfd hcl) hX hrow hel) ?_; rintro e w' ⟨rfl, g1, g2, g3, col', o', g4, g5, g6, g7⟩; exact hK w' g1 g2 g3 col' o' g4 g5 g6 g7
theorem zTD (hE : EnvOk P E) (hcall : ∀ v fd' tvs outs, E.fd v = some fd' → call v tvs = some outs → FnSpec P E fd' tvs outs) (h : Inv w0 X Y0 fix s ρ col a w) {o3 : Oper} {f v : FuncId} {args : Array Operand} {tys : Array TypeId} {fd2 : FD}
  (heq : o3.op = .call { callee := .value (.func f), args := args, argTypes := tys }) (hfd : E.fd v = some fd2) (hid : fd2.id = f) (hkn : fd2.keeps = []) {u : Ty} {f2 : FuncId} (hm : fd2.sig.dels u f2 = true) {zs : List u.den} {outs : List TV}
  (hcl : call v [⟨.slice u, zs⟩] = some outs) {addr : Option Addr} {cap : Nat} (hargs : args.toList.map a.eval = [.slice addr zs.length cap, .func (.func f2) #[] #[]]) {colX : Col}
  (hX : ∀ b o c, colX b = some (o, c) → o = 1000 ∧ b < w.heap.size) (hrow : RowW w true (fun b => colX b = some (1000, 0)) u.cells zs.length addr cap)
  (hel : Elems w true (fun i b => colX b = some (1000, i + 1)) u zs addr) {K : Act → World → Prop} {Q : Exit → Act → World → Prop}
  (hK : ∀ w', w.heap.size ≤ w'.heap.size → Like w w' → (∀ b, b < w.heap.size → colX b = none → w'.heap[b]? = w.heap[b]?) → ∀ (col' : Col) (o' : Nat) (addr' : Option Addr) (cap' : Nat),
   (∀ b o c, col' b = some (o, c) → (w.heap.size ≤ b ∨ colX b ≠ none) ∧ b < w'.heap.size) → RowW w' true (fun b => col' b = some (o', 0)) u.cells (getTV (.slice u) outs 0).length addr' cap' →
   Elems w' true (fun i b => col' b = some (o', i + 1)) u (getTV (.slice u) outs 0) addr' → K (a.put o3.dst (.slice addr' (getTV (.slice u) outs 0).length cap')) w') : o3.wp P a w K Q := by
 obtain ⟨q1, q2, q3, q4, q5⟩ := hE.fn _ _ hfd; have g2 : a.eval (.func f) = vval ρ (.fn f []) := (h.eval (.func f) (by simp [St.eval])).2; have hrun : (execOp a.eval o3).run P w = .ok (.enter f #[.slice addr zs.length cap, .func (.func f2) #[] #[]]) w := by
  rw [← hid]; rw [← hid] at g2; have hm : args.map a.eval = #[.slice addr zs.length cap, .func (.func f2) #[] #[]] := by
   apply Array.toList_inj.1; rw [Array.toList_map]; exact hargs
  subst hid; simp only [execOp, heq, resolve, g2, vval, Deferred.ofValue]; simp only [Sem.run_bind, Sem.run_pure, Result.andThen_ok, invoke, callFunc]; have q2' : ¬ fd2.fn.name = "runtime.NumGoroutine" := by simpa using q2
  have q3' : ¬ fd2.fn.body = none := fun e => by rw [e] at q3; simp at q3
  simp [q1, q2', q3', hm]
 unfold Oper.wp; rw [hrun, Oper.upon_enter, ← hid]; refine Calls.mono (zPn hm hkn q5 (hcall _ _ _ _ hfd hcl) hX hrow hel) ?_; rintro e w' ⟨g1, g2, g3, col', o', addr', cap', rfl, g5, g6, g7⟩; exact hK w' g1 g2 g3 col' o' addr' cap' g5 g6 g7
theorem zN8 (hE : EnvOk P E) (hcall : ∀ v fd' tvs outs, E.fd v = some fd' → call v tvs = some outs → FnSpec P E fd' tvs outs) {ops : Array Oper} {n : Nat} {o1 o2 o3 : Oper} (h1 : ops[n]? = some o1) (h2 : ops[n + 1]? = some o2)
  (h3 : ops[n + 2]? = some o3) {k : St → Option (List TV)} {res : List TV} (hk : elemK E fd call s o1 o2 o3 k = some res) : ∃ s', k s' = some res ∧ s'.tm.length = s.tm.length ∧
  ∀ (w0 : World) (X Y0 : Nat → Prop) (fix : List (Nat × Value)), FixOk fd w0 X Y0 fix → ∀ ρ col a w (Q : Exit → Act → World → Prop) (tail : List Nat), Inv w0 X Y0 fix s ρ col a w →
   (∀ ρ' col' a' w', Inv w0 X Y0 fix s' ρ' col' a' w' → wpOps P ops Q tail a' w') → wpOps P ops Q (n :: (n + 1) :: (n + 2) :: tail) a w := by
 unfold elemK at hk
 split at hk
 · rename_i U p d y e f args tys g k1 k2 k3 k4 k5 k6
   split at hk
   · rename_i d' e' o i es j kk k0 ha hp hy
     split at hk
     · rename_i t xs hob
       split at hk
       · rename_i u zs hlf
         split at hk
         · rename_i fd2 hfd
           split at hk
           · rename_i hc; obtain ⟨⟨c1, c2, c3⟩, rfl, rfl, hde, hap, rfl, hns, hfl, hid, hkn, hmk, hU, hdl, hel⟩ := hc; rw [Option.bind_eq_some_iff] at hk; obtain ⟨outs, hcl, hk⟩ := hk; refine ⟨_, hk, by simp, fun w0 X Y0 fix hfix ρ col a w Q tail h hQ => ?_⟩; have hap' : ∀ q ∈ [d', e', g], apart ([q]) (fix.map (·.1)) = true := by
              intro q hq; rw [hfix.1]; simp only [apart, List.all_eq_true] at hap ⊢; intro x hx; simp only [List.mem_singleton] at hx; subst hx; exact hap x hq
             obtain ⟨m1, m2⟩ := h.getD hp (by simp); simp only [wfV, wfW, wfC] at m2; obtain ⟨_, ⟨blk, off, hρ⟩, hij⟩ := m2; have hjl := Ty.leaf_lt hlf; rw [if_neg (by omega)] at hij; have hrw : rowAs s.ob o t = some (.own, xs) := by simp [rowAs, hob]
             obtain ⟨r1, r2, r3⟩ := h.row hrw; have hil : i < xs.length := by rw [← r1]; exact hij.1
             have hxi : xs[i]? = some (xs.getD i t.zero) := by simp [List.getD_eq_getElem?_getD, List.getElem?_eq_getElem hil]
             obtain ⟨ys, hys, hcell⟩ := r3 i _ hxi; obtain ⟨addr, cap, l1, l2, l3, l4⟩ := zJp hys hlf hns; have hcl1 := hcell j _ l1; refine zg h1 (by cases hg : o1.guard <;> simp_all) ?_; have hld : (execOp a.eval o1).run P w = .ok (.value (.slice addr zs.length cap)) w := by
              have ev : a.eval (.tmp p) = .pointer (some ⟨blk, off + (i * t.cells + j), none⟩) := by
               have : a.eval (.tmp p) = a.tmps.getD p undef := rfl; rw [this, Array.getD_eq_getD_getElem?, m1]; simp [vval, wval, cval, Loc.at, hρ]
              simp only [execOp, k1, ev]; rw [hρ] at hcl1; simp only [cellAt, Option.bind_some] at hcl1; have := zQ hE.ty hU rfl hcl1; simp [this]
             unfold Oper.wp; rw [hld, Oper.upon_value, k2]; have i1 : Inv w0 X Y0 fix ⟨setO s.tm (some d') .undef, s.ob⟩ ρ col (a.put (some d') (.slice addr zs.length cap)) w := h.slot (dst := some d') (hap' d' (by simp)) (.inl rfl); refine zg h2 (by cases hg : o2.guard <;> simp_all) ?_; have ey := i1.evalInt hy; have hmv : (execOp (a.put (some d') (.slice addr zs.length cap)).eval o2).run P w = .ok (.value (.int kk k0)) w := by
              simp only [execOp, k3, ey, Sem.run_pure]
             unfold Oper.wp; rw [hmv, Oper.upon_value, k4]; have i2 := i1.slot (dst := some e') (v := .w (.c (.int kk k0))) (x := .int kk k0) (hap' e' (by simp)) (.inr ⟨trivial, rfl⟩); refine zg h3 (by cases hg : o3.guard <;> simp_all) ?_; have hsz : a.tmps.size = s.tm.length := h.size; have hdl' : d' < s.tm.length := hdl; have hel' : e' < s.tm.length := hel
             let colX : Col := fun b => if col b = some (o, i + 1) then some (1000, 0) else none
             have hXn : ∀ b, colX b ≠ none → col b = some (o, i + 1) := fun b hb => by
              simp only [colX] at hb
              split at hb
              · assumption
              · simp at hb
             have hXs : ∀ b, col b = some (o, i + 1) → colX b = some (1000, 0) := fun b hb => by simp [colX, hb]
             refine zPG (colX := colX) (addr := addr) (cap := cap) hE hcall i2 k5 hfd hid hkn hmk hcl ?_ (fun b o2 c hb => ?_) (l2.frame id (Nat.le_refl _) fun b _ hb => ⟨hXs b hb, rfl⟩) (l3.flat hfl) ?_
             · simp only [ha, List.map_cons, List.map_nil, List.cons.injEq, and_true]; have q1 : d' < a.tmps.size := by rw [hsz]; exact hdl'
               have q2 : e' < a.tmps.size := by rw [hsz]; exact hel'
               constructor
               · show ((a.tmps.setIfInBounds d' _).setIfInBounds e' _).getD d' undef = _; rw [Array.getD_eq_getD_getElem?, Array.getElem?_setIfInBounds, if_neg (fun e => hde e.symm), Array.getElem?_setIfInBounds, if_pos rfl, if_pos q1]
                 rfl
               · show ((a.tmps.setIfInBounds d' _).setIfInBounds e' _).getD e' undef = _; rw [Array.getD_eq_getD_getElem?, Array.getElem?_setIfInBounds, if_pos rfl, if_pos (by simpa using q2)]
                 rfl
             · have hx := hXn b (by rw [hb]; simp); rw [hXs b hx] at hb; simp only [Option.some.injEq, Prod.mk.injEq] at hb; exact ⟨hb.1.symm, (h.cold b _ _ hx).2.1⟩
             · intro w' g1 g2 g3 col' o' g4 g5 g6 g7; have hg5 : ∀ b o c, col' b = some (o, c) → (w.heap.size ≤ b ∨ colX b ≠ none) := fun b o c hb => (g5 b o c hb).1; rw [k6]; have hold : ∀ b, b < w.heap.size → colX b = none → backCol col colX col' w.heap.size o o' (fun _ => i + 1) b = col b := fun b hb hx => zIU hg5 hb hx; have hrow0 : ∀ b, col b = some (o, 0) → colX b = none := fun b hb => by simp [colX, hb]
               have i3 := i2.back (colX := colX) (col' := col') (w' := w') (o := o) (o' := o') (f := fun _ => i + 1) (obj := .row .own t (xs.set i (Ty.setLeaf t (xs.getD i t.zero) j u (getTV (.slice u) outs 1)))) g1 g2 (by simp [hob])
                (fun b hb => ⟨_, hXn b hb⟩) g3 g5 ?_
               · exact hQ _ _ _ _ ((h.revive hfix i3 (fun o2 ho2 => zMt (by rwa [ne_eq, zAK]))).slot (dst := some g) (hap' g (by simp)) (.inr ⟨trivial, rfl⟩))
               · refine ⟨by simpa using r1, ?_, fun q y hy => ?_⟩
                 · rw [List.length_set]; exact r2.frame id g1 (fun b hb hok => ⟨by show _ = _; rw [hold b hb (hrow0 b hok)]; exact hok, g3 b hb (hrow0 b hok)⟩)
                 · have hql : q < xs.length := by
                    have := (List.getElem?_eq_some_iff.1 hy).1; simpa using this
                   have hcs : ∀ n v, cellAt w (ρ o).addr n = some v → cellAt w' (ρ o).addr n = some v := fun n v hv => by
                    rw [zV]
                    · exact hv
                    · intro ad had; obtain ⟨_, k2, k3, _⟩ := r2.2.2 ad had (.inl (by omega)); exact g3 _ k2 (hrow0 _ k3)
                   rw [List.getElem?_set] at hy
                   by_cases hqi : i = q
                   · subst hqi; simp only [if_true, hil, Option.some.injEq] at hy; subst hy; refine ⟨ys, l4 w' true _ _ g4 (g6.frame id (Nat.le_refl _) fun b _ hb => ⟨jb hb, rfl⟩) (g7.flat hfl), fun n v hv => hcs _ _ (hcell n v hv)⟩
                   · rw [if_neg hqi] at hy; obtain ⟨ys', y1, y2⟩ := r3 q y hy; have hqx : ∀ b, col b = some (o, q + 1) → colX b = none := fun b hb => by simp [colX, hb]; omega
                     refine ⟨ys', y1.frame id g1 (fun b hb hok => ⟨by show _ = _; rw [hold b hb (hqx b hok)]; exact hok, g3 b hb (hqx b hok)⟩), fun n v hv => hcs _ _ (y2 n v hv)⟩
           · simp at hk
         · simp at hk
       · simp at hk
     · simp at hk
   · simp at hk
 · simp at hk
end
end Go.Ev
namespace Go.Ev
section
variable {P : Program} {E : Env} {fd : FD} {call : Oracle} {w0 : World} {X Y0 : Nat → Prop} {fix : List (Nat × Value)}
variable {s : St} {ρ : Locs} {col : Col} {a : Act} {w : World}
theorem CellsR.take {t : Ty} {R : t.den → List Value → Prop} {xs : List t.den} {cs : List Value} (h : CellsR t R xs cs) {i : Nat} (hi : i ≤ xs.length) : CellsR t R (xs.take i) (cs.take (i * t.cells)) := by
 have hle : i * t.cells ≤ cs.length := by rw [h.1]; exact Nat.mul_le_mul_right _ hi
 refine ⟨by rw [List.length_take, List.length_take, Nat.min_eq_left hle, Nat.min_eq_left hi], fun k x hk => ?_⟩; rw [List.getElem?_take] at hk
 split at hk
 · rename_i hki; have := h.2 k x hk; have hk1 : k * t.cells + t.cells ≤ i * t.cells := by
    have : (k + 1) * t.cells ≤ i * t.cells := Nat.mul_le_mul_right _ hki; rw [Nat.add_mul] at this; omega
   rw [List.drop_take, List.take_take, Nat.min_eq_left (by omega)]; exact this
 · simp at hk
theorem CellsR.zeros {t : Ty} {R : t.den → List Value → Prop} {ys : List Value} (hl : ys.length = t.cells) (hy : R t.zero ys) : ∀ n, CellsR t R (List.replicate n t.zero) (List.replicate n ys).flatten
 | 0 => CellsR.nil t R
 | n + 1 => by
  rw [List.replicate_succ, List.replicate_succ, List.flatten_cons]; refine CellsR.append (xs := [t.zero]) ⟨by simp [hl], fun i x hx => ?_⟩ (CellsR.zeros hl hy n)
  cases i with
  | zero =>
   simp only [List.getElem?_cons_zero, Option.some.injEq] at hx; subst hx; rw [Nat.zero_mul, List.drop_zero, List.take_of_length_le (by omega)]; exact hy
  | succ i => simp at hx
theorem zLp (ys : List Value) : ∀ n, ((List.replicate n ys).flatten).length = n * ys.length
 | 0 => by simp
 | n + 1 => by rw [List.replicate_succ, List.flatten_cons, List.length_append, zLp ys n, Nat.add_mul]; omega
theorem zIY (ys : List Value) (hpos : 1 ≤ ys.length) (n : Nat) : (Builtin.zeroCells ys.toArray n).toList = (List.replicate n ys).flatten := by
 apply List.ext_getElem?; intro j
 by_cases hj : j < n * ys.length
 · have hq : j / ys.length < n := by rw [Nat.div_lt_iff_lt_mul (by omega)]; exact hj
   have hm : j % ys.length < ys.length := Nat.mod_lt _ (by omega); have e : j = j / ys.length * ys.length + j % ys.length := by rw [Nat.mul_comm, Nat.div_add_mod]
   have h1 := zC3 ys.length (List.replicate n ys) (j / ys.length) (j % ys.length) ys (fun v hv => by rw [List.eq_of_mem_replicate hv]) (by rw [List.getElem?_replicate, if_pos hq]) hm; rw [← e] at h1; rw [h1]; simp only [Builtin.zeroCells, List.size_toArray, Array.toList_map, List.getElem?_map, Array.toList_range, List.getElem?_range hj, Option.map_some]; simp [hm]
 · rw [List.getElem?_eq_none (by simp [Builtin.zeroCells]; omega), List.getElem?_eq_none (by rw [zLp]; omega)]
theorem zMB (h : Inv w0 X Y0 fix s ρ col a w) {o : Nat} {t : Ty} {xs : List t.den} (hb : s.ob o = some (.row .sh t xs)) {zs : List Value} (hz : AnyRep t t.zero zs) (hpos : 1 ≤ t.cells) {n : Nat} (hn : n < xs.length) {dst : Option Nat}
  (hf : apart dst.toList (fix.map (·.1)) = true) {v : V} {x : Value} (hv : ∀ ob, VRel ob ρ v x) : ∃ b off w', (ρ o).addr = some ⟨b, off, none⟩ ∧
  (storeCells ⟨b, off + n * t.cells, none⟩ (List.replicate (xs.length - n) zs).flatten).run P w = .ok () w' ∧
   Inv w0 X Y0 fix ⟨setO s.tm dst v, s.ob.upd o (.row .sh t (xs.take n ++ List.replicate (xs.length - n) t.zero))⟩ ρ col (a.put dst x) w' := by
 obtain ⟨k1, k2, k3⟩ := h.obj hb; have hzl : zs.length = t.cells := (hz w false (fun _ => True)).len; obtain ⟨b, off, q2⟩ := zJZ k2 (by omega); obtain ⟨cs, co, ko⟩ := Elems.cellsR (R := TRep w false (RO col (Yof w0 X Y0)) t) (fun i x zs _ hr => zF4 h hr) k3; obtain ⟨_, m2, m3, m4⟩ := k2.2.2 _ q2 (.inr rfl); obtain ⟨cur, T', g1, g2⟩ := m4 rfl; simp only at m2 m3 g1 g2; have m3' : col b = some (o, 0) := m3; have hcap : xs.length * t.cells ≤ (ρ o).cap * t.cells := Nat.mul_le_mul_right _ k2.1; have hZl : ((List.replicate (xs.length - n) zs).flatten).length = (xs.length - n) * t.cells := by rw [zLp, hzl]
 have hsum : n * t.cells + (xs.length - n) * t.cells = xs.length * t.cells := by rw [← Nat.add_mul, Nat.add_sub_cancel' (by omega)]
 have hone : ∀ v ∈ (List.replicate (xs.length - n) zs).flatten, v.oneCell' = true := fun v hv => by
  obtain ⟨l, hl, hv⟩ := List.mem_flatten.1 hv; rw [List.eq_of_mem_replicate hl] at hv; exact (hz w false (fun _ => True)).one v hv
 have hr := run_storeCells_at P b (off + n * t.cells) T' (List.replicate (xs.length - n) zs).flatten 0 cur w g1 (by omega) hone; simp only [Nat.add_zero] at hr; have coZ := CellsR.zeros (t := t) (R := TRep w false (RO col (Yof w0 X Y0)) t) hzl (hz _ _ _) (xs.length - n); have coN := (co.take (i := n) (by omega)).append coZ; generalize hZ : (List.replicate (xs.length - n) zs).flatten = Z at hr hZl hone coN coZ; have hsr := setRow_heap w b cur (cur.toList.take (off + (n * t.cells)) ++ Z ++ cur.toList.drop (off + (n * t.cells) + Z.length)).toArray T' _ g1; have hcur : ∀ m v, cs[m]? = some v → cur.toList[off + m]? = some v := by
  intro m v hv; have := ko m v hv; rw [q2] at this; simp only [cellAt, Option.bind_some, World.cell?, g1] at this; simpa using this
 have hcl : cs.length = xs.length * t.cells := co.1; refine ⟨b, off, _, q2, hr, ?_⟩; have hother : ∀ k, k ≠ b → (w.setRow b (cur.toList.take (off + (n * t.cells)) ++ Z ++ cur.toList.drop (off + (n * t.cells) + Z.length)).toArray).heap[k]? = w.heap[k]? := fun k hk => setRow_other w b k _ hk
 have hcells : ∀ m z, (cs.take (n * t.cells) ++ Z)[m]? = some z →
   cellAt (w.setRow b (cur.toList.take (off + (n * t.cells)) ++ Z ++ cur.toList.drop (off + (n * t.cells) + Z.length)).toArray) (ρ o).addr m = some z := by
  intro m z hv; rw [q2]; simp only [cellAt, Option.bind_some, World.cell?, hsr, Option.isSome_none, Bool.false_eq_true, if_false, List.getElem?_toArray]; rw [List.append_assoc, List.getElem?_append]; rw [List.getElem?_append] at hv; simp only [List.length_take, Array.length_toList] at hv ⊢
  by_cases hm : m < n * t.cells
  · rw [if_pos (by omega)] at hv; rw [if_pos (by omega), List.getElem?_take, if_pos (by omega)]; rw [List.getElem?_take, if_pos hm] at hv; exact hcur m z hv
  · rw [if_neg (by omega)] at hv; rw [if_neg (by omega)]; have e1 : m - min (n * t.cells) cs.length = m - (n * t.cells) := by omega
    have e2 : off + m - min (off + (n * t.cells)) cur.size = m - (n * t.cells) := by omega
    rw [e1] at hv; have hlt := (List.getElem?_eq_some_iff.1 hv).1; rw [e2, List.getElem?_append, if_pos hlt]; exact hv
 have hlen : (xs.take n ++ List.replicate (xs.length - n) t.zero).length = xs.length := by simp; omega
 exact h.write (dst := dst) (o := o) (b := b) (obj := .row .sh t (xs.take n ++ List.replicate (xs.length - n) t.zero)) hf (by simp [hb]) m3' hother (by simp)
  (v := v) (x := x) ⟨by rw [hlen]; exact k1, ⟨by rw [hlen]; exact k2.1, fun e => by rw [hlen]; exact k2.2.1 e, fun ad had _ => by
   rw [q2] at had; simp only [Option.some.injEq] at had; subst had; exact ⟨rfl, by simpa using m2, m3', fun _ => ⟨_, T', hsr, by simp only [List.size_toArray, List.length_append, List.length_take, List.length_drop, Array.length_toList]; omega⟩⟩⟩,
   coN.elems (fun x zs hx => hx.frame (by simp [Mode.deep]) (by simp) (fun b' _ hb' => ⟨hb', hother b' (RO.ne hb' m3')⟩)) hcells⟩ (hv _) (by first | exact ⟨rfl, rfl, rfl, Nat.le_refl _⟩ | exact ⟨rfl, rfl, rfl, Nat.le_add_right _ _⟩)
theorem zQP {T e : TypeId} {i : TypeInfo} (hT : P.underlying T = some (.slice e)) (hi : P.info? e = some i) {len : Nat} {addr : Option Addr} {cap : Nat} {k : IntKind} {n : Int} (h0 : 0 ≤ n) (h1 : n ≤ (len : Int)) (w : World) :
  (Instr.sliceAt T (.slice addr len cap) (some (.int k n)) none none).run P w = .ok (.slice (if cap = n.toNat then addr else addr.map (·.add (n.toNat * i.size))) (len - n.toNat) (cap - n.toNat)) w := by
 have hb := run_sliceBound (P := P) w k n len .sliceB h0 h1; simp [Instr.sliceAt, run_underlying hT, Instr.slice, Instr.sliceBounds, zH hi, hb]
theorem zSv {a : Act} {d : Nat} (hd : d < a.tmps.size) (x : Value) : (a.put (some d) x).eval (.tmp d) = x := by
 show (a.tmps.setIfInBounds d x).getD d undef = x; rw [Array.getD_eq_getD_getElem?, Array.getElem?_setIfInBounds, if_pos rfl, if_pos hd]
 rfl
theorem zMA (hE : EnvOk P E) {ops : Array Oper} {n : Nat} {o1 o2 : Oper} (h1 : ops[n]? = some o1) (h2 : ops[n + 1]? = some o2)
  {k : St → Option (List TV)} {res : List TV} (hk : clearK E fd s o1 o2 k = some res) : ∃ s', k s' = some res ∧ s'.tm.length = s.tm.length ∧
  ∀ (w0 : World) (X Y0 : Nat → Prop) (fix : List (Nat × Value)), FixOk fd w0 X Y0 fix → ∀ ρ col a w (Q : Exit → Act → World → Prop) (tail : List Nat), Inv w0 X Y0 fix s ρ col a w →
   (∀ ρ' col' a' w', Inv w0 X Y0 fix s' ρ' col' a' w' → wpOps P ops Q tail a' w') → wpOps P ops Q (n :: (n + 1) :: tail) a w := by
 unfold clearK at hk
 split at hk
 · rename_i T x lo d args tys k1 k2 k3
   split at hk
   · rename_i d' T' o kk m ha hty hx hlo
     split at hk
     · rename_i t xs t' hob hT
       split at hk
       · rename_i hc; obtain ⟨⟨c1, c2⟩, rfl, rfl, rfl, hap, hdl⟩ := hc
         cases hbd : (decide (0 ≤ m) && decide (m ≤ (xs.length : Int))) with
         | false => rw [hbd] at hk; simp at hk
         | true =>
          rw [hbd] at hk; simp only [cond_true] at hk; simp only [Bool.and_eq_true, decide_eq_true_eq] at hbd; obtain ⟨hm0, hm1⟩ := hbd; refine ⟨_, hk, by simp [zG7], fun w0 X Y0 fix hfix ρ col a w Q tail h hQ => ?_⟩; have hap1 : apart ((some d').toList) (fix.map (·.1)) = true := by
           rw [hfix.1]; simp only [apart, List.all_eq_true, Option.toList_some, List.mem_singleton] at hap ⊢; rintro q rfl; exact hap q List.mem_cons_self
          have hap2 : apart (o2.dst.toList) (fix.map (·.1)) = true := by
           rw [hfix.1]; simp only [apart, List.all_eq_true] at hap ⊢; exact fun q hq => hap q (List.mem_cons_of_mem _ hq)
          have hrw : rowAs s.ob o t' = some (.sh, xs) := by simp [rowAs, hob]
          obtain ⟨r1, r2, r3⟩ := h.row hrw; have ex : a.eval x = .slice (ρ o).addr xs.length (ρ o).cap := by
           have := (h.eval x (by rw [hx]; simp)).2; rw [this, hx, ← r1]
           rfl
          have elo := h.evalInt hlo; obtain ⟨_, el, hTu, hte⟩ := hE.ty _ _ hT; obtain ⟨i, hi, hz, hs, hb, hc1, _⟩ := hte.base; have hzc : (wval (fun _ => ⟨none, 0, 0⟩) t'.zeroW).cells = (wcells (fun _ => ⟨none, 0, 0⟩) t'.zeroW).toArray := zI _ _; have hzr : AnyRep t' t'.zero (wcells (fun _ => ⟨none, 0, 0⟩) t'.zeroW) := zAl _ hte; have hzl : (wcells (fun _ => ⟨none, 0, 0⟩) t'.zeroW).length = t'.cells := (hzr w false (fun _ => True)).len; refine zg h1 (by cases hg : o1.guard <;> simp_all) ?_; have hcut : (execOp a.eval o1).run P w = .ok (.value (.slice (if (ρ o).cap = m.toNat then (ρ o).addr else (ρ o).addr.map (·.add (m.toNat * i.size))) (xs.length - m.toNat) ((ρ o).cap - m.toNat))) w := by
           have := zQP (P := P) hTu hi (len := xs.length) (addr := (ρ o).addr) (cap := (ρ o).cap) (k := kk) hm0 hm1 w; simp [execOp, k1, ex, elo, this]
          unfold Oper.wp; rw [hcut, Oper.upon_value, k2]; have i1 := h.slot (dst := some d') (v := .undef) (x := .slice (if (ρ o).cap = m.toNat then (ρ o).addr else (ρ o).addr.map (·.add (m.toNat * i.size))) (xs.length - m.toNat) ((ρ o).cap - m.toNat)) hap1 (.inl rfl); refine zg h2 (by cases hg : o2.guard <;> simp_all) ?_; have hsz : d' < a.tmps.size := by rw [h.size]; exact hdl
          have hpe := zSv hsz (.slice (if (ρ o).cap = m.toNat then (ρ o).addr else (ρ o).addr.map (·.add (m.toNat * i.size))) (xs.length - m.toNat) ((ρ o).cap - m.toNat)); have hxa : args = #[.tmp d'] := by apply Array.toList_inj.1; simpa using ha
          have hTa : tys = #[T'] := by apply Array.toList_inj.1; simpa using hty
          have vt : ∀ ob, VRel ob ρ (.tup []) (.tuple #[]) := fun ob => .inr ⟨fun x hx => by simp at hx, rfl⟩
          by_cases hlt : m.toNat < xs.length
          · obtain ⟨b, off, w', q1, q2, q3⟩ := zMB (P := P) i1 (o := o) (xs := xs) hob hzr (by omega) hlt (dst := o2.dst) hap2 vt; have hcapl := r2.1; have hadd : (ρ o).addr.map (·.add (m.toNat * i.size)) = some ⟨b, off + m.toNat * t'.cells, none⟩ := by
             rw [q1, hs]; simp [zCg]
            rw [if_neg (by omega), hadd] at hpe; have hcl : (execOp (a.put (some d') (.slice (if (ρ o).cap = m.toNat then (ρ o).addr else (ρ o).addr.map (·.add (m.toNat * i.size))) (xs.length - m.toNat) ((ρ o).cap - m.toNat))).eval o2).run P w = .ok (.value (.tuple #[])) w' := by
             rw [if_neg (by omega), hadd]; obtain ⟨r, hr⟩ : ∃ r, xs.length - m.toNat = r + 1 := ⟨xs.length - m.toNat - 1, by omega⟩; have q2' : (storeCells ⟨b, off + m.toNat * t'.cells, none⟩ (Builtin.zeroCells (wval (fun _ => ⟨none, 0, 0⟩) t'.zeroW).cells (r + 1)).toList).run P w = .ok () w' := by
              rw [hzc, zIY _ (by omega), ← hr]; exact q2
             rw [hr] at hpe ⊢; simp [execOp, k3, resolve, hxa, hTa, hpe, invoke, builtin, Builtin.clear_, run_underlying hTu, kE hi hz, q2']
            unfold Oper.wp; rw [hcl, Oper.upon_value]; exact hQ _ _ _ _ q3
          · have e0 : xs.length - m.toNat = 0 := by omega
            have hcl : (execOp (a.put (some d') (.slice (if (ρ o).cap = m.toNat then (ρ o).addr else (ρ o).addr.map (·.add (m.toNat * i.size))) (xs.length - m.toNat) ((ρ o).cap - m.toNat))).eval o2).run P w = .ok (.value (.tuple #[])) w := by
             rw [e0] at hpe ⊢; generalize (if (ρ o).cap = m.toNat then (ρ o).addr else (ρ o).addr.map (·.add (m.toNat * i.size))) = ad at hpe ⊢
             cases ad <;> simp [execOp, k3, resolve, hxa, hTa, hpe, invoke, builtin, Builtin.clear_, run_underlying hTu]
            unfold Oper.wp; rw [hcl, Oper.upon_value]; have e1 : s.ob.upd o (.row .sh t' (xs.take m.toNat ++ List.replicate (xs.length - m.toNat) t'.zero)) = s.ob := by
             rw [e0, List.replicate_zero, List.append_nil, List.take_of_length_le (by omega)]; funext q; simp only [Objs.upd]
             split
             · rename_i e; subst e; exact hob.symm
             · rfl
            refine hQ ρ col _ _ ?_; rw [e1]; exact i1.slot (dst := o2.dst) hap2 (vt _)
       · simp at hk
     · simp at hk
   · simp at hk
 · simp at hk
end
end Go.Ev
namespace Go.Ev
section
variable {P : Program} {E : Env} {fd : FD} {call : Oracle} {w0 : World} {X Y0 : Nat → Prop} {fix : List (Nat × Value)}
variable {s : St} {ρ : Locs} {col : Col} {a : Act} {w : World}
theorem zOA (hE : EnvOk P E) (hcall : ∀ v fd' tvs outs, E.fd v = some fd' → call v tvs = some outs → FnSpec P E fd' tvs outs) {ops : Array Oper} {n : Nat} {o3 : Oper} (h3 : ops[n]? = some o3)
  {k : St → Option (List TV)} {res : List TV} (hk : deepK E fd call s o3 k = some res) : ∃ s', k s' = some res ∧ s'.tm.length = s.tm.length ∧
  ∀ (w0 : World) (X Y0 : Nat → Prop) (fix : List (Nat × Value)), FixOk fd w0 X Y0 fix → ∀ ρ col a w (Q : Exit → Act → World → Prop) (tail : List Nat), Inv w0 X Y0 fix s ρ col a w →
   (∀ ρ' col' a' w', Inv w0 X Y0 fix s' ρ' col' a' w' → wpOps P ops Q tail a' w') → wpOps P ops Q (n :: tail) a w := by
 unfold deepK at hk
 split at hk
 · rename_i f args tys g k5 k6
   split at hk
   · rename_i x y ha
     split at hk
     · rename_i o kk k0 hx hy
       split at hk
       · rename_i t xs hob
         split at hk
         · rename_i fd2 hfd
           split at hk
           · rename_i hc; obtain ⟨c3, hap, hid, hkn, hmk⟩ := hc; rw [Option.bind_eq_some_iff] at hk; obtain ⟨outs, hcl, hk⟩ := hk; refine ⟨_, hk, by simp, fun w0 X Y0 fix hfix ρ col a w Q tail h hQ => ?_⟩; have hap' : apart ([g]) (fix.map (·.1)) = true := by rw [hfix.1]; exact hap
             have hrw : rowAs s.ob o t = some (.own, xs) := by simp [rowAs, hob]
             obtain ⟨r1, r2, r3⟩ := h.row hrw; have ex : a.eval x = .slice (ρ o).addr xs.length (ρ o).cap := by
              have := (h.eval x (by rw [hx]; simp)).2; rw [this, hx, ← r1]
              rfl
             have ey := h.evalInt hy; refine zg h3 (by cases hg : o3.guard <;> simp_all) ?_
             let colX : Col := fun b => match col b with
              | some (o2, c) => if o2 = o then some (1000, c) else none
              | none => none
             have hXn : ∀ b o2 c, colX b = some (o2, c) → o2 = 1000 ∧ col b = some (o, c) := fun b o2 c hb => by
              simp only [colX] at hb
              split at hb
              · rename_i o3 c3 hcb
                split at hb
                · rename_i e; subst e; simp only [Option.some.injEq, Prod.mk.injEq] at hb; obtain ⟨rfl, rfl⟩ := hb; exact ⟨rfl, hcb⟩
                · simp at hb
              · simp at hb
             have hXs : ∀ b c, col b = some (o, c) → colX b = some (1000, c) := fun b c hb => by simp [colX, hb]
             refine zPG (colX := colX) (addr := (ρ o).addr) (cap := (ρ o).cap) hE hcall h k5 hfd hid hkn hmk hcl ?_ (fun b o2 c hb => ?_) (r2.frame id (Nat.le_refl _) fun b _ hb => ⟨hXs b 0 hb, rfl⟩)
              (r3.frame id (Nat.le_refl _) (fun i _ b _ hb => ⟨hXs b _ hb, rfl⟩) (fun _ _ _ => rfl)) ?_
             · simp only [ha, List.map_cons, List.map_nil, ex, ey]
             · obtain ⟨g1, g2⟩ := hXn b o2 c hb; exact ⟨g1, (h.cold b _ _ g2).2.1⟩
             · intro w' g1 g2 g3 col' o' g4 g5 g6 g7; rw [k6]
               have i3 := h.back (colX := colX) (col' := col') (w' := w') (o := o) (o' := o') (f := fun c => c) (obj := .row .own t (getTV (.slice t) outs 1)) g1 g2 (by simp [hob])
                (fun b hb => by
                 cases hh : colX b with
                 | none => exact absurd hh hb
                 | some y => exact ⟨y.2, (hXn b y.1 y.2 hh).2⟩) g3 g5 ?_
               · exact hQ _ _ _ _ ((h.revive hfix i3 (fun o2 ho2 => zMt (by rwa [ne_eq, zAK]))).slot (dst := some g) hap' (.inr ⟨trivial, rfl⟩))
               · refine ⟨by rw [r1, g4], ?_, ?_⟩
                 · rw [g4]; exact g6.frame id (Nat.le_refl _) (fun b hb hok => ⟨jb hok, rfl⟩)
                 · exact g7.frame id (Nat.le_refl _) (fun i _ b _ hok => ⟨jb hok, rfl⟩) (fun _ _ _ => rfl)
           · simp at hk
         · simp at hk
       · simp at hk
     · simp at hk
   · simp at hk
 · simp at hk
theorem zNm (hE : EnvOk P E) (hcall : ∀ v fd' tvs outs, E.fd v = some fd' → call v tvs = some outs → FnSpec P E fd' tvs outs) {ops : Array Oper} {n : Nat} {o3 : Oper} (h3 : ops[n]? = some o3)
  {k : St → Option (List TV)} {res : List TV} (hk : sortK E fd call s o3 k = some res) : ∃ s', k s' = some res ∧ s'.tm.length = s.tm.length ∧
  ∀ (w0 : World) (X Y0 : Nat → Prop) (fix : List (Nat × Value)), FixOk fd w0 X Y0 fix → ∀ ρ col a w (Q : Exit → Act → World → Prop) (tail : List Nat), Inv w0 X Y0 fix s ρ col a w →
   (∀ ρ' col' a' w', Inv w0 X Y0 fix s' ρ' col' a' w' → wpOps P ops Q tail a' w') → wpOps P ops Q (n :: tail) a w := by
 unfold sortK at hk
 split at hk
 · rename_i f args tys k5
   split at hk
   · rename_i x y ha
     split at hk
     · rename_i o f2 hx hy
       split at hk
       · rename_i t xs hob
         split at hk
         · rename_i fd2 hfd
           split at hk
           · rename_i hc; obtain ⟨c3, hap, hid, hkn, hmk⟩ := hc; rw [Option.bind_eq_some_iff] at hk; obtain ⟨outs, hcl, hk⟩ := hk; refine ⟨_, hk, by simp [zG7], fun w0 X Y0 fix hfix ρ col a w Q tail h hQ => ?_⟩; have hap' : apart (o3.dst.toList) (fix.map (·.1)) = true := by rw [hfix.1]; exact hap
             have hrw : rowAs s.ob o t = some (.own, xs) := by simp [rowAs, hob]
             obtain ⟨r1, r2, r3⟩ := h.row hrw; have ex : a.eval x = .slice (ρ o).addr xs.length (ρ o).cap := by
              have := (h.eval x (by rw [hx]; simp)).2; rw [this, hx, ← r1]
              rfl
             have ey : a.eval y = .func (.func f2) #[] #[] := by
              have := (h.eval y (by rw [hy]; simp)).2; rw [this, hy]
              rfl
             refine zg h3 (by cases hg : o3.guard <;> simp_all) ?_
             let colX : Col := fun b => match col b with
              | some (o2, c) => if o2 = o then some (1000, c) else none
              | none => none
             have hXn : ∀ b o2 c, colX b = some (o2, c) → o2 = 1000 ∧ col b = some (o, c) := fun b o2 c hb => by
              simp only [colX] at hb
              split at hb
              · rename_i o3 c3 hcb
                split at hb
                · rename_i e; subst e; simp only [Option.some.injEq, Prod.mk.injEq] at hb; obtain ⟨rfl, rfl⟩ := hb; exact ⟨rfl, hcb⟩
                · simp at hb
              · simp at hb
             have hXs : ∀ b c, col b = some (o, c) → colX b = some (1000, c) := fun b c hb => by simp [colX, hb]
             refine zRp (colX := colX) (addr := (ρ o).addr) (cap := (ρ o).cap) hE hcall h k5 hfd hid hkn hmk hcl ?_ (fun b o2 c hb => ?_) (r2.frame id (Nat.le_refl _) fun b _ hb => ⟨hXs b 0 hb, rfl⟩)
              (r3.frame id (Nat.le_refl _) (fun i _ b _ hb => ⟨hXs b _ hb, rfl⟩) (fun _ _ _ => rfl)) ?_
             · simp only [ha, List.map_cons, List.map_nil, ex, ey]
             · obtain ⟨g1, g2⟩ := hXn b o2 c hb; exact ⟨g1, (h.cold b _ _ g2).2.1⟩
             · intro w' g1 g2 g3 col' o' g4 g5 g6 g7
               have i3 := h.back (colX := colX) (col' := col') (w' := w') (o := o) (o' := o') (f := fun c => c) (obj := .row .own t (getTV (.slice t) outs 0)) g1 g2 (by simp [hob])
                (fun b hb => by
                 cases hh : colX b with
                 | none => exact absurd hh hb
                 | some y => exact ⟨y.2, (hXn b y.1 y.2 hh).2⟩) g3 g5 ?_
               · exact hQ _ _ _ _ ((h.revive hfix i3 (fun o2 ho2 => zMt (by rwa [ne_eq, zAK]))).slot (dst := o3.dst) (v := .tup []) hap' (.inr ⟨fun x hx => by simp at hx, rfl⟩))
               · refine ⟨by rw [r1, g4], ?_, ?_⟩
                 · rw [g4]; exact g6.frame id (Nat.le_refl _) (fun b hb hok => ⟨jb hok, rfl⟩)
                 · exact g7.frame id (Nat.le_refl _) (fun i _ b _ hok => ⟨jb hok, rfl⟩) (fun _ _ _ => rfl)
           · simp at hk
         · simp at hk
       · simp at hk
     · simp at hk
   · simp at hk
 · simp at hk
theorem zPm (hE : EnvOk P E) (hcall : ∀ v fd' tvs outs, E.fd v = some fd' → call v tvs = some outs → FnSpec P E fd' tvs outs) {ops : Array Oper} {n : Nat} {o3 : Oper} (h3 : ops[n]? = some o3)
  {k : St → Option (List TV)} {res : List TV} (hk : delK E fd call s o3 k = some res) : ∃ s', k s' = some res ∧ s'.tm.length = s.tm.length ∧
  ∀ (w0 : World) (X Y0 : Nat → Prop) (fix : List (Nat × Value)), FixOk fd w0 X Y0 fix → ∀ ρ col a w (Q : Exit → Act → World → Prop) (tail : List Nat), Inv w0 X Y0 fix s ρ col a w →
   (∀ ρ' col' a' w', Inv w0 X Y0 fix s' ρ' col' a' w' → wpOps P ops Q tail a' w') → wpOps P ops Q (n :: tail) a w := by
 unfold delK at hk
 split at hk
 · rename_i f args tys d k5 k6
   split at hk
   · rename_i x y ha
     split at hk
     · rename_i o f2 hx hy
       split at hk
       · rename_i t xs hob
         split at hk
         · rename_i fd2 hfd
           split at hk
           · rename_i hc; obtain ⟨c3, hap, hid, hkn, hmk, hrv, hnw⟩ := hc; rw [Option.bind_eq_some_iff] at hk; obtain ⟨outs, hcl, hk⟩ := hk; refine ⟨_, hk, by simp [zG7], fun w0 X Y0 fix hfix ρ col a w Q tail h hQ => ?_⟩; have hap' : apart ((some d).toList) (fix.map (·.1)) = true := by rw [hfix.1]; exact hap
             have hrw : rowAs s.ob o t = some (.own, xs) := by simp [rowAs, hob]
             obtain ⟨r1, r2, r3⟩ := h.row hrw; have ex : a.eval x = .slice (ρ o).addr xs.length (ρ o).cap := by
              have := (h.eval x (by rw [hx]; simp)).2; rw [this, hx, ← r1]
              rfl
             have ey : a.eval y = .func (.func f2) #[] #[] := by
              have := (h.eval y (by rw [hy]; simp)).2; rw [this, hy]
              rfl
             refine zg h3 (by cases hg : o3.guard <;> simp_all) ?_
             let colX : Col := fun b => match col b with
              | some (o2, c) => if o2 = o then some (1000, c) else none
              | none => none
             have hXn : ∀ b o2 c, colX b = some (o2, c) → o2 = 1000 ∧ col b = some (o, c) := fun b o2 c hb => by
              simp only [colX] at hb
              split at hb
              · rename_i o3 c3 hcb
                split at hb
                · rename_i e; subst e; simp only [Option.some.injEq, Prod.mk.injEq] at hb; obtain ⟨rfl, rfl⟩ := hb; exact ⟨rfl, hcb⟩
                · simp at hb
              · simp at hb
             have hXs : ∀ b c, col b = some (o, c) → colX b = some (1000, c) := fun b c hb => by simp [colX, hb]
             refine zTD (colX := colX) (addr := (ρ o).addr) (cap := (ρ o).cap) hE hcall h k5 hfd hid hkn hmk hcl ?_ (fun b o2 c hb => ?_) (r2.frame id (Nat.le_refl _) fun b _ hb => ⟨hXs b 0 hb, rfl⟩)
              (r3.frame id (Nat.le_refl _) (fun i _ b _ hb => ⟨hXs b _ hb, rfl⟩) (fun _ _ _ => rfl)) ?_
             · simp only [ha, List.map_cons, List.map_nil, ex, ey]
             · obtain ⟨g1, g2⟩ := hXn b o2 c hb; exact ⟨g1, (h.cold b _ _ g2).2.1⟩
             · intro w' g1 g2 g3 col' o' addr' cap' g5 g6 g7; rw [k6]
               have i3 := h.back (colX := colX) (col' := col') (w' := w') (o := o) (o' := o') (f := fun c => c) (obj := .dead) g1 g2 (by simp [hob])
                (fun b hb => by
                 cases hh : colX b with
                 | none => exact absurd hh hb
                 | some y => exact ⟨y.2, (hXn b y.1 y.2 hh).2⟩) g3 g5 trivial
               have i4 := h.revive hfix i3 (fun o2 ho2 => zMt (by rwa [ne_eq, zAK])); have ho : (((killRo s.ob).upd o .dead).upds (fd.revive s)) o = some .dead := by
                rw [zE2 (fun p hp e => by
                 have : o ∈ (fd.revive s).map (·.1) := e ▸ List.mem_map_of_mem hp; simp [this] at hrv)]
                simp [Objs.upd]
               have hid' : (((killRo s.ob).upd o .dead).upds (fd.revive s)) (idOf d) = none := by simpa using hnw
               refine hQ _ _ _ _ (i4.take (dst := some d) hap' (o := o) (id := idOf d) ho hid' (obj := .row .own t (getTV (.slice t) outs 0)) ⟨addr', (getTV (.slice t) outs 0).length, cap'⟩ (w' := w') (fun _ _ _ => rfl) rfl ?_
                (zBu _ _ rfl) (fun _ _ _ _ => rfl) (Like.refl w'))
               have hL : putLoc ρ (idOf d) ⟨addr', (getTV (.slice t) outs 0).length, cap'⟩ (idOf d) = ⟨addr', (getTV (.slice t) outs 0).length, cap'⟩ := by simp [putLoc]
               refine ⟨by rw [hL], ?_, ?_⟩
               · rw [hL]; exact g6.frame id (Nat.le_refl _) (fun b hb hok => ⟨zAO (jb hok), rfl⟩)
               · rw [hL]; exact g7.frame id (Nat.le_refl _) (fun i _ b _ hok => ⟨zAO (jb hok), rfl⟩) (fun _ _ _ => rfl)
           · simp at hk
         · simp at hk
       · simp at hk
     · simp at hk
   · simp at hk
 · simp at hk
theorem zJv (hE : EnvOk P E) (hcall : ∀ v fd' tvs outs, E.fd v = some fd' → call v tvs = some outs → FnSpec P E fd' tvs outs) (N id : Nat) (h : Hook) (ops : Array Oper) : HookOk P E fd call N id h ops := by
 intro s k res hk hN; have hop : ∀ (w0 : World) (X Y0 : Nat → Prop) (fix : List (Nat × Value)), OpOk P E fd call w0 X Y0 fix := fun _ _ _ _ => zSw hE hcall; unfold hookK at hk; obtain ⟨xs, s1, t1, hk⟩ := zBQ _ _ _ hk; have hall : ops.toList = ops.toList.take h.n ++ ops.toList.drop h.n := (List.take_append_drop _ _).symm; have hlen1 : s1.tm.length = N := by rw [t1.len, hN]
 split at hk
 · split at hk
   · rename_i o1 o2 r hd; rw [hd] at hall; have hn : h.n < ops.toList.length := by
      by_cases hlt : h.n < ops.toList.length
      · exact hlt
      · rw [List.drop_eq_nil_of_le (by omega)] at hd; simp at hd
     have htl : (ops.toList.take h.n).length = h.n := by rw [List.length_take]; exact Nat.min_eq_left (Nat.le_of_lt hn)
     have hat : ∀ j o, (ops.toList.drop h.n)[j]? = some o → ops[h.n + j]? = some o := fun j o ho => by
      rw [List.getElem?_drop, Array.getElem?_toList] at ho; exact ho
     rw [hd] at hat; obtain ⟨s2, hk2, hl2, f2⟩ := zMA hE (n := h.n) (hat 0 o1 rfl) (hat 1 o2 rfl) hk; obtain ⟨xs3, s3, t3, hk3⟩ := zBQ _ _ _ hk2; refine ⟨s3, hk3, by rw [t3.len, hl2, hlen1], fun w0 X Y0 fix hfix ρ col a w Q hi hQ => wp_region ?_⟩; have hsz : ops.size = h.n + (2 + r.length) := by
      have := congrArg List.length hall; rw [List.length_append, htl] at this; simp only [Array.length_toList, List.length_cons] at this; omega
     rw [List.range_eq_range', hsz, ← List.range'_append_1]
     have := jc (hop w0 X Y0 fix) hfix.1 (Q := Q) t1 (List.range' (0 + h.n) (2 + r.length)) [] (o1 :: o2 :: r) ρ col a w (by simpa using hall) hi ?_
     · rw [htl] at this; simpa using this
     · intro ρ1 col1 a1 w1 hi1; rw [Nat.zero_add, show List.range' h.n (2 + r.length) = h.n :: (h.n + 1) :: (List.range' (h.n + 2) r.length ++ []) by
        rw [show 2 + r.length = r.length + 1 + 1 by omega]; simp [List.range'_succ]]
       refine f2 w0 X Y0 fix hfix ρ1 col1 a1 w1 Q _ hi1 (fun ρ2 col2 a2 w2 hi2 => ?_); have := jc (hop w0 X Y0 fix) hfix.1 (Q := Q) t3 [] (ops.toList.take h.n ++ [o1, o2]) [] ρ2 col2 a2 w2 (by simpa using hall) hi2 (fun ρ3 col3 a3 w3 hi3 => by simpa [wpOps] using hQ ρ3 col3 a3 w3 hi3); simpa [htl] using this
   · simp at hk
 split at hk
 · rename_i o1 o2 o3 r he hd; rw [hd] at hall; have hn : h.n < ops.toList.length := by
    by_cases hlt : h.n < ops.toList.length
    · exact hlt
    · rw [List.drop_eq_nil_of_le (by omega)] at hd; simp at hd
   have htl : (ops.toList.take h.n).length = h.n := by rw [List.length_take]; exact Nat.min_eq_left (Nat.le_of_lt hn)
   have hat : ∀ j o, (ops.toList.drop h.n)[j]? = some o → ops[h.n + j]? = some o := fun j o ho => by
    rw [List.getElem?_drop, Array.getElem?_toList] at ho; exact ho
   rw [hd] at hat; obtain ⟨s2, hk2, hl2, f2⟩ := zN8 hE hcall (n := h.n) (hat 0 o1 rfl) (hat 1 o2 rfl) (hat 2 o3 rfl) hk; obtain ⟨xs3, s3, t3, hk3⟩ := zBQ _ _ _ hk2; refine ⟨s3, hk3, by rw [t3.len, hl2, hlen1], fun w0 X Y0 fix hfix ρ col a w Q hi hQ => wp_region ?_⟩; have hsz : ops.size = h.n + (3 + r.length) := by
    have := congrArg List.length hall; rw [List.length_append, htl] at this; simp only [Array.length_toList, List.length_cons] at this; omega
   rw [List.range_eq_range', hsz, ← List.range'_append_1]
   have := jc (hop w0 X Y0 fix) hfix.1 (Q := Q) t1 (List.range' (0 + h.n) (3 + r.length)) [] (o1 :: o2 :: o3 :: r) ρ col a w (by simpa using hall) hi ?_
   · rw [htl] at this; simpa using this
   · intro ρ1 col1 a1 w1 hi1; rw [Nat.zero_add, show List.range' h.n (3 + r.length) = h.n :: (h.n + 1) :: (h.n + 2) :: (List.range' (h.n + 3) r.length ++ []) by
      rw [show 3 + r.length = r.length + 1 + 1 + 1 by omega]; simp [List.range'_succ]]
     refine f2 w0 X Y0 fix hfix ρ1 col1 a1 w1 Q _ hi1 (fun ρ2 col2 a2 w2 hi2 => ?_); have := jc (hop w0 X Y0 fix) hfix.1 (Q := Q) t3 [] (ops.toList.take h.n ++ [o1, o2, o3]) [] ρ2 col2 a2 w2 (by simpa using hall) hi2 (fun ρ3 col3 a3 w3 hi3 => by simpa [wpOps] using hQ ρ3 col3 a3 w3 hi3); simpa [htl] using this
 · rename_i o3 r he hd; rw [hd] at hall; have hn : h.n < ops.toList.length := by
    by_cases hlt : h.n < ops.toList.length
    · exact hlt
    · rw [List.drop_eq_nil_of_le (by omega)] at hd; simp at hd
   have htl : (ops.toList.take h.n).length = h.n := by rw [List.length_take]; exact Nat.min_eq_left (Nat.le_of_lt hn)
   have hat : ∀ j o, (ops.toList.drop h.n)[j]? = some o → ops[h.n + j]? = some o := fun j o ho => by
    rw [List.getElem?_drop, Array.getElem?_toList] at ho; exact ho
   rw [hd] at hat
   obtain ⟨s2, hk2, hl2, f2⟩ : ∃ s', (opsK E fd call ops r s' [] fun s3 _ => k s3) = some res ∧ s'.tm.length = s1.tm.length ∧
     ∀ (w0 : World) (X Y0 : Nat → Prop) (fix : List (Nat × Value)), FixOk fd w0 X Y0 fix → ∀ ρ col a w (Q : Exit → Act → World → Prop) (tail : List Nat), Inv w0 X Y0 fix s1 ρ col a w →
      (∀ ρ' col' a' w', Inv w0 X Y0 fix s' ρ' col' a' w' → wpOps P ops Q tail a' w') → wpOps P ops Q (h.n :: tail) a w := by
    split at hk
    · exact zOA hE hcall (n := h.n) (hat 0 o3 rfl) hk
    · split at hk
      · exact zNm hE hcall (n := h.n) (hat 0 o3 rfl) hk
      · exact zPm hE hcall (n := h.n) (hat 0 o3 rfl) hk
   obtain ⟨xs3, s3, t3, hk3⟩ := zBQ _ _ _ hk2; refine ⟨s3, hk3, by rw [t3.len, hl2, hlen1], fun w0 X Y0 fix hfix ρ col a w Q hi hQ => wp_region ?_⟩; have hsz : ops.size = h.n + (1 + r.length) := by
    have := congrArg List.length hall; rw [List.length_append, htl] at this; simp only [Array.length_toList, List.length_cons] at this; omega
   rw [List.range_eq_range', hsz, ← List.range'_append_1]
   have := jc (hop w0 X Y0 fix) hfix.1 (Q := Q) t1 (List.range' (0 + h.n) (1 + r.length)) [] (o3 :: r) ρ col a w (by simpa using hall) hi ?_
   · rw [htl] at this; simpa using this
   · intro ρ1 col1 a1 w1 hi1; rw [Nat.zero_add, show List.range' h.n (1 + r.length) = h.n :: (List.range' (h.n + 1) r.length ++ []) by
      rw [show 1 + r.length = r.length + 1 by omega]; simp [List.range'_succ]]
     refine f2 w0 X Y0 fix hfix ρ1 col1 a1 w1 Q _ hi1 (fun ρ2 col2 a2 w2 hi2 => ?_); have := jc (hop w0 X Y0 fix) hfix.1 (Q := Q) t3 [] (ops.toList.take h.n ++ [o3]) [] ρ2 col2 a2 w2 (by simpa using hall) hi2 (fun ρ3 col3 a3 w3 hi3 => by simpa [wpOps] using hQ ρ3 col3 a3 w3 hi3); simpa [htl] using this
 · simp at hk
end
end Go.Ev
namespace Go.Ev
def Obj.calm : Obj → Bool
 | .row .own t _ => t.flat
 | _ => true
theorem zGt (tvs : List TV) : ∀ (l : List OS) (i p : Nat), l.all OS.calm = true → ∀ q ∈ (buildOs tvs l i p).1, q.2.calm = true
 | [], i, p, _, q, hq => by simp [buildOs] at hq
 | x :: r, i, p, h, q, hq => by
  simp only [List.all_cons, Bool.and_eq_true] at h; simp only [buildOs, List.mem_cons] at hq
  rcases hq with rfl | hq
  · cases x with
    | row m t => cases m <;> simp_all [OS.build, Obj.calm, OS.calm]
    | box m x => rfl
  · exact zGt tvs r _ _ h.2 q hq
theorem zOS {sh : Shape} {N p : Nat} {tvs : List TV} (h : sh.objs.all OS.calm = true) : ∀ o x, (sh.build N tvs p).ob o = some x → x.calm = true := by
 intro o x hx; simp only [Shape.build] at hx
 rcases kc hx with hm | ⟨hn, _⟩
 · exact zGt tvs sh.objs 0 p h _ hm
 · simp [Objs.none] at hn
def calmCol (col : Col) : Col := fun b => match col b with
 | some (o, 0) => some (o, 0)
 | _ => none
theorem zFX {col : Col} {b o : Nat} (h : col b = some (o, 0)) : calmCol col b = some (o, 0) := by simp [calmCol, h]
theorem zK8 {col : Col} {b o c : Nat} (h : calmCol col b = some (o, c)) : col b = some (o, 0) ∧ c = 0 := by
 unfold calmCol at h
 split at h
 · rename_i o' h'; simp only [Option.some.injEq, Prod.mk.injEq] at h; rw [h', h.1]; exact ⟨rfl, h.2.symm⟩
 · simp at h
theorem zJz {col : Col} {Y : Nat → Prop} {b : Nat} (h : RO col Y b) : calmCol col b = none := by
 rcases h.1 with h | ⟨o, i, h⟩ <;> simp [calmCol, h]
section
variable {w0 : World} {X Y0 : Nat → Prop} {fix : List (Nat × Value)} {s : St} {ρ : Locs} {col : Col} {a : Act} {w : World}
theorem Inv.rebase (h : Inv w0 X Y0 fix s ρ col a w) (hc : ∀ o x, s.ob o = some x → x.calm = true) {fix' : List (Nat × Value)} (hf : ∀ q ∈ fix', q.1 < a.tmps.size ∧ a.tmps.getD q.1 Go.undef = q.2) :
  Inv w (fun b => calmCol col b ≠ none) (fun b => Yof w0 X Y0 b ∧ calmCol col b = none) fix' s ρ (calmCol col) a w := by
 have hro : ∀ b, RO col (Yof w0 X Y0) b → RO (calmCol col) (Yof w (fun b => calmCol col b ≠ none) (fun b => Yof w0 X Y0 b ∧ calmCol col b = none)) b := fun b hb =>
  ⟨.inl (zJz hb), .inl ⟨hb.2, zJz hb⟩⟩
 refine ⟨h.defers, h.size, h.tmps, fun o x hx => ?_, fun b o c hb => ?_, fun _ _ _ => rfl, Nat.le_refl _, hf, Like.refl w⟩
 · have hr := h.objs o x hx; have hcx := hc o x hx
   cases x with
   | dead => trivial
   | box m x =>
    obtain ⟨b, h1, h2, h3, h4, h5, h6, h7⟩ := hr; refine ⟨b, h1, h2, h3, h4, h5, ?_, h7⟩
    cases m with
    | own => exact zFX h6
    | sh => exact zFX h6
    | ro => exact hro b h6
   | row m t xs =>
    obtain ⟨h1, h2, h3⟩ := hr
    cases m with
    | own => exact ⟨h1, h2.frame id (Nat.le_refl _) (fun b _ hb => ⟨zFX hb, rfl⟩), h3.flat hcx⟩
    | sh => exact ⟨h1, h2.frame id (Nat.le_refl _) (fun b _ hb => ⟨zFX hb, rfl⟩), h3.frame id (Nat.le_refl _) (fun i _ b _ hb => ⟨hro b hb, rfl⟩) (fun _ _ _ => rfl)⟩
    | ro => exact ⟨h1, h2.frame id (Nat.le_refl _) (fun b _ hb => ⟨hro b hb, rfl⟩), h3.frame id (Nat.le_refl _) (fun i _ b _ hb => ⟨hro b hb, rfl⟩) (fun _ _ _ => rfl)⟩
 · obtain ⟨g1, rfl⟩ := zK8 hb; obtain ⟨_, g2, g3⟩ := h.cold b o 0 g1; exact ⟨.inr (by rw [hb]; simp), g2, g3⟩
theorem Inv.unbase (h : Inv w0 X Y0 fix s ρ col a w) {fix' : List (Nat × Value)} {s' : St} {ρ' : Locs} {col' : Col} {a' : Act} {w' : World}
  (h' : Inv w (fun b => calmCol col b ≠ none) (fun b => Yof w0 X Y0 b ∧ calmCol col b = none) fix' s' ρ' col' a' w') (hf : ∀ q ∈ fix, q ∈ fix') : Inv w0 X Y0 fix s' ρ' col' a' w' := by
 have hX : ∀ b, calmCol col b ≠ none → (w0.heap.size ≤ b ∨ X b) := fun b hb => by
  cases hh : calmCol col b with
  | none => exact absurd hh hb
  | some y =>
   obtain ⟨o, c⟩ := y; exact (h.cold b o 0 (zK8 hh).1).1
 refine ⟨h'.defers, h'.size, h'.tmps, fun o x hx => ?_, fun b o c hb => ?_, fun b hb hx => ?_, Nat.le_trans h.mono h'.mono, fun q hq => h'.fixed q (hf q hq), h.same.trans h'.same⟩
 · refine (h'.objs o x hx).frame (by rw [hx]; simp) (Stays.refl _ _) (Nat.le_refl _) (fun b c _ hb => ⟨hb, rfl⟩) (fun b _ hb => ⟨⟨hb.1, ?_⟩, rfl⟩)
   rcases hb.2 with g | g | g
   · exact g.1
   · exact .inr (.inl (Nat.le_trans h.mono g))
   · exact .inr (hX b g)
 · obtain ⟨g1, g2, g3⟩ := h'.cold b o c hb; refine ⟨?_, g2, g3⟩
   rcases g1 with g | g
   · exact .inl (Nat.le_trans h.mono g)
   · exact hX b g
 · have h1 := h'.low b (Nat.lt_of_lt_of_le hb h.mono) (fun g => by
    rcases hX b g with g | g
    · omega
    · exact hx g)
   rw [h1]; exact h.low b hb hx
theorem Kept.rebase {fd : FD} (h : Inv w0 X Y0 fix s ρ col a w) (hk : fd.keptOk s = true) :
  Kept fd w (fun b => calmCol col b ≠ none) (fun b => Yof w0 X Y0 b ∧ calmCol col b = none) (fd.fixed.map fun i => (i, a.tmps.getD i Go.undef)) := by
 intro i hi t hp v hv; obtain ⟨j, _, hj⟩ := List.mem_map.1 hv; simp only [Prod.mk.injEq] at hj; obtain ⟨rfl, rfl⟩ := hj; have := List.all_eq_true.1 hk j hi; rw [hp] at this
 split at this
 · rename_i t' x e1 e2; simp only [Option.some.injEq, PK.ro.injEq] at e1; subst e1
   split at this
   · rename_i y us hpk; obtain ⟨m1, m2⟩ := h.getD e2 (by simp); rw [Array.getD_eq_getD_getElem?, m1]; simp only [Option.getD_some, vval, zI]; refine ⟨y, zDn (ob' := s.ob) m2 hpk (fun o m u xs hm ho => ?_)⟩; have hmr : m = .ro := by simpa using List.all_eq_true.1 this _ hm
     subst hmr; obtain ⟨g1, g2, g3⟩ := h.objs o _ ho; have hro : ∀ b, RO col (Yof w0 X Y0) b → (Yof w0 X Y0 b ∧ calmCol col b = none) ∧ ¬ calmCol col b ≠ none := fun b hb => ⟨⟨hb.2, zJz hb⟩, fun g => g (zJz hb)⟩; exact ⟨g1, g2.frame (by simp) (Nat.le_refl _) (fun b _ hb => ⟨hro b hb, rfl⟩), g3.frame (by simp) (Nat.le_refl _) (fun i _ b _ hb => ⟨hro b hb, rfl⟩) (fun _ _ _ => rfl)⟩
   · simp at this
 · simp at this
end
end Go.Ev
namespace Go.Ev
section
variable {P : Program} {E : Env} {w0 : World} {X Y0 : Nat → Prop} {fix : List (Nat × Value)} {s : St} {ρ : Locs} {col : Col} {a : Act} {w : World}
def resF (a : Act) : ResultVar → Sem Value
 | .tmp t => pure (a.tmps.getD t undef)
 | .cell b t => do loadVar t (← asAddr (a.tmps.getD b undef))
theorem zIs (fn : Func) (a : Act) : results fn a.tmps = (do
  let vs ← fn.results.mapM (resF a)
  pure (if h : vs.size = 1 then vs[0] else .tuple vs)) := by
 unfold results; congr 1
theorem zRv (hE : EnvTy P E) (h : Inv w0 X Y0 fix s ρ col a w) {v : ResultVar} {u : W} (hr : resW E s v = some u) : wfW s.ob ρ u ∧ (resF a v).run P w = .ok (wval ρ u) w := by
 cases v with
 | tmp t =>
  have e := zHx hr; obtain ⟨k1, k2⟩ := h.getD (t := t) e (by simp); have : a.tmps.getD t undef = wval ρ u := by rw [Array.getD_eq_getD_getElem?, k1]; rfl
  exact ⟨k2, by simp only [resF, this, Sem.run_pure]⟩
 | cell b T =>
  simp only [resW] at hr
  split at hr
  · rename_i o hb
    split at hr
    · rename_i t m x ht hx
      split at hr
      · rename_i hfit; simp only [Option.some.injEq] at hr; subst hr; obtain ⟨k1, k2⟩ := h.getD (t := b) hb (by simp); obtain ⟨blk, g1, g2, g3, g4, g5, _⟩ := h.box hx; have e : a.tmps.getD b undef = .pointer (some ⟨blk, 0, none⟩) := by
         rw [Array.getD_eq_getD_getElem?, k1]; simp [vval, wval, cval, zA2 g1]
        refine ⟨g3, ?_⟩; simp only [resF, e, asAddr, pure_bind]
        by_cases hsc : t.scalar = true
        · obtain ⟨c, rfl, _⟩ := W.fits_scalar hfit hsc; exact zBv ((hE T _ ht).cell1 hsc) (g5 0 _ rfl)
        · have hsc' : t.scalar = false := by simpa using hsc
          rw [W.fits_agg hfit hsc']; exact zDZ (hE T _ ht) hsc' (W.fits_len hfit g3) (fun j v hv => by rw [zCg, Nat.zero_add]; exact g5 j v hv)
      · simp at hr
    · simp at hr
  · simp at hr
theorem zM0 (hE : EnvTy P E) (h : Inv w0 X Y0 fix s ρ col a w) : ∀ {vs : List ResultVar} {ws : List W}, resWs E s vs = some ws → (∀ x ∈ ws, wfW s.ob ρ x) ∧
  (vs.mapM (resF a)).run P w = .ok (ws.map (wval ρ)) w
 | [], ws, hr => by
  simp only [resWs, Option.some.injEq] at hr; subst hr; exact ⟨fun x hx => by simp at hx, by simp⟩
 | v :: r, ws, hr => by
  simp only [resWs] at hr
  split at hr
  · rename_i u us hu hus; simp only [Option.some.injEq] at hr; subst hr; obtain ⟨g1, g2⟩ := zM0 hE h hus; obtain ⟨k1, k2⟩ := zRv hE h hu
    refine ⟨fun x hx => ?_, ?_⟩
    · rcases List.mem_cons.1 hx with rfl | hx
      · exact k1
      · exact g1 x hx
    · simp only [List.mapM_cons, Sem.run_bind, k2, g2, Result.andThen_ok, Sem.run_pure, List.map_cons]
  · simp at hr
theorem zRu (hE : EnvTy P E) (h : Inv w0 X Y0 fix s ρ col a w) {fn : Func} {ws : List W} (hr : resWs E s fn.results.toList = some ws) : (∀ x ∈ ws, wfW s.ob ρ x) ∧ (results fn a.tmps).run P w = .ok (vval ρ (resV ws)) w := by
 obtain ⟨g1, g2⟩ := zM0 (P := P) hE h hr; refine ⟨g1, ?_⟩; rw [zIs, Array.mapM_eq_mapM_toList]; simp only [Sem.run_bind, Sem.run_map, g2, Result.andThen_ok]
 match ws with
 | [] => rfl
 | [u] => rfl
 | u :: u' :: us => rfl
theorem zQe {e : Ex} {s : St} {N : Nat} {outs : List TV} : ∀ {l : List (Ex × Shape)} {i : Int}, findOut e s l i = some outs → ∃ (j : Nat) (sh : Shape) (tv : List TV), outs = ⟨.int .i64, i + j⟩ :: tv ∧ sh.fit s = some tv ∧ j < l.length ∧
  ∀ k : Ex → St → Option (List TV), exitsK N outs k l i = k e (sh.build N outs 1)
 | [], i, h => by simp [findOut] at h
 | (e', sh) :: r, i, h => by
  simp only [findOut] at h
  split at h
  · rename_i he; subst he; rw [Option.map_eq_some_iff] at h; obtain ⟨tv, h1, rfl⟩ := h; refine ⟨0, sh, tv, by simp, h1, by simp, fun k => ?_⟩
    cases r with
    | nil => rfl
    | cons q r =>
     simp only [exitsK]; have : getTV (.int .i64) ((⟨.int .i64, i⟩ : TV) :: tv) 0 = i := by simp [getTV]
     rw [this]; simp
  · rename_i he; obtain ⟨j, sh', tv, h1, h2, h3, h4⟩ := zQe (N := N) h
    refine ⟨j + 1, sh', tv, ?_, h2, by simp; omega, fun k => ?_⟩
    · rw [h1, show i + 1 + (j : Int) = i + ((j + 1 : Nat) : Int) by omega]
    · cases r with
      | nil => simp at h3
      | cons q r =>
       rw [← h4 k]; simp only [exitsK]; have : getTV (.int .i64) outs 0 = i + 1 + j := by rw [h1]; simp [getTV]
       rw [this]; have : (i + 1 + (j : Int) == i) = false := by simp; omega
       rw [this]
       rfl
theorem zPe {l : List Code} {b : Code} (hn : (l.map firstRegion).Nodup) (hb : b ∈ l) : l.find? (fun a => firstRegion a == firstRegion b) = some b := by
 induction l with
 | nil => simp at hb
 | cons c l ih =>
  simp only [List.map_cons, List.nodup_cons] at hn; rw [List.find?_cons]
  rcases List.mem_cons.1 hb with rfl | hb
  · simp
  · have : (firstRegion c == firstRegion b) = false := by
     simp only [beq_eq_false_iff_ne, ne_eq]; intro e; exact hn.1 (by rw [e]; exact List.mem_map_of_mem hb)
    rw [this]; exact ih hn.2 hb
theorem zEd {sh : Shape} {N : Nat} {tvs : List TV} {p : Nat} : (sh.build N tvs p).tm.length = N := by
 have key : ∀ (l : List (Nat × VS)) (q : Nat) (tm : List V), (buildVs tvs l q tm).length = tm.length := by
  intro l
  induction l with
  | nil => intro q tm; rfl
  | cons x l ih =>
   intro q tm; obtain ⟨t, v⟩ := x; simp only [buildVs]; rw [ih]; simp
 simp only [Shape.build]; rw [key]; simp
theorem zRF (hE : EnvOk P E) : ∀ n, (∀ v fd tvs outs, E.fd v = some fd → run E n v tvs = some outs → FnSpec P E fd tvs outs) ∧
  (∀ v fd c body info tvs outs, E.fd v = some fd → fd.fn.body = some c → body ∈ loopsOf c → fd.loops.lookup (firstRegion body) = some info → run E n info.lid tvs = some outs → LoopOk P fd fd.fn.ntmps body info n tvs outs) ∧
  (∀ v fd c body info tvs outs, E.fd v = some fd → fd.fn.body = some c → body ∈ restsOf c → fd.joins.lookup (firstRegion body) = some info → run E n info.lid tvs = some outs → JoinOk P fd fd.fn.ntmps body info tvs outs)
 | 0 => ⟨fun v fd tvs outs _ h => by simp [run] at h, fun v fd c body info tvs outs _ _ _ _ h => by simp [run] at h, fun v fd c body info tvs outs _ _ _ _ h => by simp [run] at h⟩
 | n + 1 => by
  obtain ⟨ihF, ihL, ihJ⟩ := zRF hE n; have hop : ∀ (fd : FD) (w0 : World) (X Y0 : Nat → Prop) (fix : List (Nat × Value)), FixOk fd w0 X Y0 fix → OpOk P E fd (run E n) w0 X Y0 fix := fun fd w0 X Y0 fix _ => zSw hE ihF
  refine ⟨fun v fd tvs outs hfd h => ?_, fun v fd c body info tvs outs hfd hbody hmem hlk h => ?_, fun v fd c body info tvs outs hfd hbody hmem hlk h => ?_⟩
  · obtain ⟨q1, q2, q3, q4, q5⟩ := hE.fn _ _ hfd; simp only [run, run1, (hE.ld _ _ hfd).1, hfd] at h
    cases hx : E.ext v with
    | some k =>
     rw [hx] at h; exact hE.ext _ _ _ hfd hx _ _ _ ihF h
    | none =>
    rw [hx] at h; simp only at h; unfold runFn at h
    split at h
    · rename_i c hc
      split at h
      · rename_i hch; have hNl : (fd.init tvs).tm.length = fd.fn.ntmps := by
         have : (initPs tvs fd.sig.params 0 0).1.length = fd.sig.params.length := by
          have key : ∀ (ks : List PK) (i p : Nat), (initPs tvs ks i p).1.length = ks.length := by
           intro ks
           induction ks with
           | nil => intro i p; rfl
           | cons k ks ih => intro i p; simp [initPs, ih]
          exact key _ _ _
         simp only [FD.init, List.length_append, List.length_replicate, this]; omega
        obtain ⟨e, s', hk, hN', hrun⟩ := ky (P := P) (N := fd.fn.ntmps) (m := n) hE.mixed (hop fd) (fun id h ops _ => zJv hE ihF fd.fn.ntmps id h ops) c (fun b hb info hl tvs outs ho => ihL v fd c b info tvs outs hfd hc hb hl ho) (fun b hb info hl tvs outs ho => ihJ v fd c b info tvs outs hfd hc hb hl ho) h hNl; have hfin : (e = .ret ∨ e = .normal) ∧ fd.finish E s' = some outs := by
         cases e with
         | exit id => simp at hk
         | ret => exact ⟨.inl rfl, hk⟩
         | normal => exact ⟨.inr rfl, hk⟩
        obtain ⟨ws, _, _, _, _, _, _, hws, _⟩ := jL hfin.2; intro w0 X Y0 ρ col args hal hkp hin; refine calls_of_wp q1 hc ?_; have hfixm : FixOk fd w0 X Y0 (fixOf fd args) := ⟨by simp [fixOf, Function.comp_def], hkp⟩; have hsz : args.toArray.size = args.length := by simp
        rw [hsz]; refine hrun w0 X Y0 (fixOf fd args) hfixm ρ col _ w0 _ hin (fun ρ' col' a' w' hi' => ?_); obtain ⟨k1, k2⟩ := zRu (P := P) (fn := fd.fn) hE.ty hi' hws
        have post : a'.defers = [] ∧ ∃ v, (results fd.fn a'.tmps).run P w' = .ok v w' ∧ (fun e w' => ∃ s' ρ' col' a' ws, e = Ending.returned (vval ρ' (resV ws)) ∧ Inv w0 X Y0 (fixOf fd args) s' ρ' col' a' w' ∧ fd.finish E s' = some outs ∧ resWs E s' fd.fn.results.toList = some ws ∧ ∀ x ∈ ws, wfW s'.ob ρ' x) (.returned v) w' :=
         ⟨hi'.defers, _, k2, s', ρ', col', a', ws, rfl, hi', hfin.2, hws, k1⟩
        rcases hfin.1 with rfl | rfl
        · exact post
        · exact post
      · simp at h
    · simp at h
  · have hld := (hE.ld _ _ hfd).2.1 _ (kp hlk); simp only at hld; simp only [run, run1, hld, hfd] at h; unfold runLoop at h; rw [hbody] at h; simp only at h
    split at h
    · rename_i b hfb
      split at h
      · rename_i hnd; have hbb : b = body := by
         have := zPe (l := loopsOf c) hnd hmem; rw [hfb] at this; exact Option.some.inj this
        subst hbb; have hsub : ∀ b', b' ∈ loopsOf b → b' ∈ loopsOf c := loops_sub hmem; have hsub2 : ∀ b', b' ∈ restsOf b → b' ∈ restsOf c := rests_loop hmem; obtain ⟨e, s', hk, hN', hrun⟩ := ky (P := P) (N := fd.fn.ntmps) (m := n) hE.mixed (hop fd) (fun id h ops _ => zJv hE ihF fd.fn.ntmps id h ops) b (fun b' hb' info' hl tvs outs ho => ihL v fd c b' info' tvs outs hfd hbody (hsub b' hb') hl ho) (fun b' hb' info' hl tvs outs ho => ihJ v fd c b' info' tvs outs hfd hbody (hsub2 b' hb') hl ho) h zEd; have leaves : ∀ {outs}, findOut e s' info.outs 0 = some outs → e ≠ .normal → LoopOk P fd fd.fn.ntmps b info (n + 1) tvs outs := by
         intro outs hfo hne; obtain ⟨j, sh, tv, h1, h2, h3, h4⟩ := zQe (N := fd.fn.ntmps) hfo; refine ⟨e, sh, h4, zEd, fun w0 X Y0 fix ρ col a w Q hfix hi hQ => ?_⟩; rw [rounds_succ]; refine hrun w0 X Y0 fix hfix ρ col a w _ hi (fun ρ' col' a' w' hi' => ?_); obtain ⟨ρ2, col2, hi2⟩ := zCa hi' h2 [⟨.int .i64, 0 + (j : Int)⟩]; rw [hN'] at hi2; have : ([(⟨.int .i64, 0 + (j : Int)⟩ : TV)] ++ tv) = outs := by rw [h1]; rfl
         rw [this] at hi2; have hq := hQ ρ2 col2 a' w' hi2
         cases e with
         | normal => exact absurd rfl hne
         | exit id => exact hq
         | ret => exact hq
        cases e with
        | normal =>
         simp only at hk
         split at hk
         · rename_i tvs' htv; obtain ⟨e2, sh2, m1, m2, m3⟩ := ihL v fd c b info tvs' outs hfd hbody hmem hlk hk; refine ⟨e2, sh2, m1, m2, fun w0 X Y0 fix ρ col a w Q hfix hi hQ => ?_⟩; rw [rounds_succ]; refine hrun w0 X Y0 fix hfix ρ col a w _ hi (fun ρ' col' a' w' hi' => ?_); obtain ⟨ρ2, col2, hi2⟩ := zCa hi' htv []; rw [hN'] at hi2; exact m3 w0 X Y0 fix ρ2 col2 a' w' Q hfix hi2 hQ
         · simp at hk
        | exit id => exact leaves hk (by simp)
        | ret => exact leaves hk (by simp)
      · simp at h
    · simp at h
  · have hld := (hE.ld _ _ hfd).2.2 _ (kp hlk); simp only at hld; simp only [run, run1, hld, hfd] at h; unfold runJoin at h; rw [hbody] at h; simp only at h
    split at h
    · rename_i b hfb; have hbb : b = body := by
       have : body ∈ (restsOf c).filter (fun a => firstRegion a == firstRegion body) := List.mem_filter.2 ⟨hmem, by simp⟩; rw [hfb] at this; exact (List.mem_singleton.1 this).symm
      subst hbb
      split at h
      · obtain ⟨e, s', hk, hN', hrun⟩ := ky (P := P) (N := fd.fn.ntmps) (m := n) hE.mixed (hop fd) (fun id h ops _ => zJv hE ihF fd.fn.ntmps id h ops) b (fun b' hb' info' hl tvs outs ho => ihL v fd c b' info' tvs outs hfd hbody (loops_rest hmem b' hb') hl ho) (fun b' hb' info' hl tvs outs ho => ihJ v fd c b' info' tvs outs hfd hbody (rests_sub hmem b' hb') hl ho) h zEd; obtain ⟨j, sh, tv, h1, h2, h3, h4⟩ := zQe (N := fd.fn.ntmps) hk; refine ⟨e, sh, h4, zEd, fun w0 X Y0 fix ρ col a w Q hfix hi hQ => ?_⟩; refine hrun w0 X Y0 fix hfix ρ col a w _ hi (fun ρ' col' a' w' hi' => ?_); obtain ⟨ρ2, col2, hi2⟩ := zCa hi' h2 [⟨.int .i64, 0 + (j : Int)⟩]; rw [hN'] at hi2; have : ([(⟨.int .i64, 0 + (j : Int)⟩ : TV)] ++ tv) = outs := by rw [h1]; rfl
        rw [this] at hi2; exact hQ ρ2 col2 a' w' hi2
      · split at h
        · rename_i hbo; simp only [baseOk, Bool.and_eq_true] at hbo; obtain ⟨⟨⟨b1, b2⟩, b3⟩, b4⟩ := hbo; obtain ⟨e, s', hk, hN', hrun⟩ := ky (P := P) (N := fd.fn.ntmps) (m := n) hE.mixed (hop (fd.based info.base)) (fun id h ops _ => zJv hE ihF fd.fn.ntmps id h ops) b (fun b' hb' info' hl tvs outs ho => by simp [FD.based] at hl) (fun b' hb' info' hl tvs outs ho => by simp [FD.based] at hl) h zEd; obtain ⟨j, sh, tv, h1, h2, h3, h4⟩ := zQe (N := fd.fn.ntmps) hk; refine ⟨e, sh, h4, zEd, fun w0 X Y0 fix ρ col a w Q hfix hi hQ => ?_⟩; have hsz : a.tmps.size = fd.fn.ntmps := hi.size.trans zEd; have hf2 : ∀ q ∈ (fd.based info.base).fixed.map (fun i => (i, a.tmps.getD i Go.undef)), q.1 < a.tmps.size ∧ a.tmps.getD q.1 Go.undef = q.2 := fun q hq => by
           obtain ⟨i, hi', rfl⟩ := List.mem_map.1 hq; have := List.all_eq_true.1 b4 i hi'; exact ⟨by rw [hsz]; simpa using this, rfl⟩
          have hsub : ∀ q ∈ fix, q ∈ (fd.based info.base).fixed.map (fun i => (i, a.tmps.getD i Go.undef)) := fun q hq => by
           have hq1 : q.1 ∈ fd.fixed := by rw [← hfix.1]; exact List.mem_map_of_mem hq
           have hq2 := List.all_eq_true.1 b3 _ hq1; refine List.mem_map.2 ⟨q.1, by simpa using hq2, ?_⟩; rw [(hi.fixed q hq).2]
          refine hrun w _ _ _ ⟨by simp [Function.comp_def], Kept.rebase hi b2⟩ ρ _ a w _ (hi.rebase (zOS b1) hf2) (fun ρ' col' a' w' hi' => ?_); obtain ⟨ρ2, col2, hi2⟩ := zCa (hi.unbase hi' hsub) h2 [⟨.int .i64, 0 + (j : Int)⟩]; rw [hN'] at hi2; have : ([(⟨.int .i64, 0 + (j : Int)⟩ : TV)] ++ tv) = outs := by rw [h1]; rfl
          rw [this] at hi2; exact hQ ρ2 col2 a' w' hi2
        · simp at h
    · simp at h
where
 rests_sub : ∀ {c b : Code}, b ∈ restsOf c → ∀ b', b' ∈ restsOf b → b' ∈ restsOf c
  | .seq x y, b, h, b', hb => by
   simp only [restsOf, List.mem_append, List.mem_cons] at h ⊢
   rcases h with h | rfl | h
   · exact .inl (rests_sub h b' hb)
   · exact .inr (.inr hb)
   · exact .inr (.inr (rests_sub h b' hb))
  | .cond _ x y, b, h, b', hb => by
   simp only [restsOf, List.mem_append] at h ⊢; exact h.imp (fun h => rests_sub h b' hb) (fun h => rests_sub h b' hb)
  | .block _ x, b, h, b', hb => by
   simp only [restsOf] at h ⊢; exact rests_sub h b' hb
  | .loop x, b, h, b', hb => by
   simp only [restsOf] at h ⊢; exact rests_sub h b' hb
  | .skip, b, h, _, _ => by simp [restsOf] at h
  | .region _ _ _, b, h, _, _ => by simp [restsOf] at h
  | .rangeFunc _ _ _ _, b, h, _, _ => by simp [restsOf] at h
  | .exit _, b, h, _, _ => by simp [restsOf] at h
  | .scope _, b, h, _, _ => by simp [restsOf] at h
  | .label _, b, h, _, _ => by simp [restsOf] at h
  | .goto _, b, h, _, _ => by simp [restsOf] at h
  | .ret, b, h, _, _ => by simp [restsOf] at h
  | .refuse _, b, h, _, _ => by simp [restsOf] at h
 loops_rest : ∀ {c b : Code}, b ∈ restsOf c → ∀ b', b' ∈ loopsOf b → b' ∈ loopsOf c
  | .seq x y, b, h, b', hb => by
   simp only [restsOf, List.mem_append, List.mem_cons] at h; simp only [loopsOf, List.mem_append]
   rcases h with h | rfl | h
   · exact .inl (loops_rest h b' hb)
   · exact .inr hb
   · exact .inr (loops_rest h b' hb)
  | .cond _ x y, b, h, b', hb => by
   simp only [restsOf, List.mem_append] at h; simp only [loopsOf, List.mem_append]; exact h.imp (fun h => loops_rest h b' hb) (fun h => loops_rest h b' hb)
  | .block _ x, b, h, b', hb => by
   simp only [restsOf] at h; simp only [loopsOf]; exact loops_rest h b' hb
  | .loop x, b, h, b', hb => by
   simp only [restsOf] at h; simp only [loopsOf, List.mem_cons]; exact .inr (loops_rest h b' hb)
  | .skip, b, h, _, _ => by simp [restsOf] at h
  | .region _ _ _, b, h, _, _ => by simp [restsOf] at h
  | .rangeFunc _ _ _ _, b, h, _, _ => by simp [restsOf] at h
  | .exit _, b, h, _, _ => by simp [restsOf] at h
  | .scope _, b, h, _, _ => by simp [restsOf] at h
  | .label _, b, h, _, _ => by simp [restsOf] at h
  | .goto _, b, h, _, _ => by simp [restsOf] at h
  | .ret, b, h, _, _ => by simp [restsOf] at h
  | .refuse _, b, h, _, _ => by simp [restsOf] at h
 rests_loop : ∀ {c b : Code}, b ∈ loopsOf c → ∀ b', b' ∈ restsOf b → b' ∈ restsOf c
  | .seq x y, b, h, b', hb => by
   simp only [loopsOf, List.mem_append] at h; simp only [restsOf, List.mem_append, List.mem_cons]
   rcases h with h | h
   · exact .inl (rests_loop h b' hb)
   · exact .inr (.inr (rests_loop h b' hb))
  | .cond _ x y, b, h, b', hb => by
   simp only [loopsOf, List.mem_append] at h; simp only [restsOf, List.mem_append]; exact h.imp (fun h => rests_loop h b' hb) (fun h => rests_loop h b' hb)
  | .block _ x, b, h, b', hb => by
   simp only [loopsOf] at h; simp only [restsOf]; exact rests_loop h b' hb
  | .loop x, b, h, b', hb => by
   simp only [loopsOf, List.mem_cons] at h; simp only [restsOf]
   rcases h with rfl | h
   · exact hb
   · exact rests_loop h b' hb
  | .skip, b, h, _, _ => by simp [loopsOf] at h
  | .region _ _ _, b, h, _, _ => by simp [loopsOf] at h
  | .rangeFunc _ _ _ _, b, h, _, _ => by simp [loopsOf] at h
  | .exit _, b, h, _, _ => by simp [loopsOf] at h
  | .scope _, b, h, _, _ => by simp [loopsOf] at h
  | .label _, b, h, _, _ => by simp [loopsOf] at h
  | .goto _, b, h, _, _ => by simp [loopsOf] at h
  | .ret, b, h, _, _ => by simp [loopsOf] at h
  | .refuse _, b, h, _, _ => by simp [loopsOf] at h
 loops_sub : ∀ {c b : Code}, b ∈ loopsOf c → ∀ b', b' ∈ loopsOf b → b' ∈ loopsOf c
  | .seq x y, b, h, b', hb => by
   simp only [loopsOf, List.mem_append] at h ⊢; exact h.imp (fun h => loops_sub h b' hb) (fun h => loops_sub h b' hb)
  | .cond _ x y, b, h, b', hb => by
   simp only [loopsOf, List.mem_append] at h ⊢; exact h.imp (fun h => loops_sub h b' hb) (fun h => loops_sub h b' hb)
  | .block _ x, b, h, b', hb => by
   simp only [loopsOf] at h ⊢; exact loops_sub h b' hb
  | .loop x, b, h, b', hb => by
   simp only [loopsOf, List.mem_cons] at h ⊢
   rcases h with rfl | h
   · exact .inr hb
   · exact .inr (loops_sub h b' hb)
  | .skip, b, h, _, _ => by simp [loopsOf] at h
  | .region _ _ _, b, h, _, _ => by simp [loopsOf] at h
  | .rangeFunc _ _ _ _, b, h, _, _ => by simp [loopsOf] at h
  | .exit _, b, h, _, _ => by simp [loopsOf] at h
  | .scope _, b, h, _, _ => by simp [loopsOf] at h
  | .label _, b, h, _, _ => by simp [loopsOf] at h
  | .goto _, b, h, _, _ => by simp [loopsOf] at h
  | .ret, b, h, _, _ => by simp [loopsOf] at h
  | .refuse _, b, h, _, _ => by simp [loopsOf] at h
end
end Go.Ev
namespace Go.Ev
def zeroCell : C → Value → Bool
 | .int k _, .int k' n => k' == k && n == 0
 | .bool _, .bool b => b == false
 | .nil, .slice none l c => l == 0 && c == 0
 | _, _ => false
def zeroCells : List C → List Value → Bool
 | [], [] => true
 | c :: cs, v :: vs => zeroCell c v && zeroCells cs vs
 | _, _ => false
def zeroB : Ty → Value → Bool
 | .int k, v => zeroCell (.int k 0) v
 | .bool, v => zeroCell (.bool false) v
 | .slice _, v => zeroCell .nil v
 | .arr k m, .agg vs => zeroCells (List.replicate m (.int k 0)) vs.toList
 | .barr m, .agg vs => zeroCells (List.replicate m (.bool false)) vs.toList
 | .pair a b, .agg vs => zeroCells (Ty.zeroC (.pair a b)) vs.toList
 | _, _ => false
def Loc0 : Locs := fun _ => ⟨none, 0, 0⟩
def C.isZero : C → Prop
 | .int _ n => n = 0
 | .bool b => b = false
 | .nil => True
 | _ => False
theorem zCh {c : C} {v : Value} (hc : c.isZero) (h : zeroCell c v = true) : v = cval Loc0 c := by
 cases c with
 | int k n => cases v <;> simp_all [zeroCell, C.isZero, cval]
 | bool b => cases v <;> simp_all [zeroCell, C.isZero, cval]
 | nil =>
  cases v with
  | slice ad l c => cases ad <;> simp_all [zeroCell, cval]
  | _ => simp [zeroCell] at h
 | _ => exact hc.elim
theorem zBo : ∀ {cs : List C} {vs : List Value}, (∀ c ∈ cs, c.isZero) → zeroCells cs vs = true → vs = cs.map (cval Loc0)
 | [], [], _, _ => rfl
 | c :: cs, v :: vs, hc, h => by
  simp only [zeroCells, Bool.and_eq_true] at h; rw [zCh (hc c (by simp)) h.1, zBo (fun c hm => hc c (by simp [hm])) h.2]
  rfl
 | [], _ :: _, _, h => by simp [zeroCells] at h
 | _ :: _, [], _, h => by simp [zeroCells] at h
theorem zFk : ∀ (t : Ty), ∀ c ∈ t.zeroC, c.isZero
 | .int _ => fun c hc => by simp [Ty.zeroC] at hc; subst hc; rfl
 | .bool => fun c hc => by simp [Ty.zeroC] at hc; subst hc; rfl
 | .slice _ => fun c hc => by simp [Ty.zeroC] at hc; subst hc; trivial
 | .arr _ _ => fun c hc => by simp [Ty.zeroC] at hc
 | .barr _ => fun c hc => by simp [Ty.zeroC] at hc
 | .pair a b => fun c hc => by
  simp only [Ty.zeroC, List.mem_append] at hc; exact hc.elim (zFk a c) (zFk b c)
theorem zQH {t : Ty} {v : Value} (h : zeroB t v = true) : v = wval Loc0 t.zeroW := by
 cases t with
 | int k => exact zCh (c := .int k 0) rfl h
 | bool => exact zCh (c := .bool false) rfl h
 | slice u => exact zCh (c := .nil) trivial h
 | arr k m =>
  cases v with
  | agg vs =>
   have := zBo (cs := List.replicate m (.int k 0)) (fun c hc => by rw [List.mem_replicate] at hc; rw [hc.2]; rfl) h; simp only [Ty.zeroW, wval, wcells]; congr 1; apply Array.toList_inj.1; rw [this]; simp [cval]
  | _ => simp [zeroB] at h
 | barr m =>
  cases v with
  | agg vs =>
   have := zBo (cs := List.replicate m (.bool false)) (fun c hc => by rw [List.mem_replicate] at hc; rw [hc.2]; rfl) h; simp only [Ty.zeroW, wval, wcells]; congr 1; apply Array.toList_inj.1; rw [this]; simp [cval]
  | _ => simp [zeroB] at h
 | pair a b =>
  cases v with
  | agg vs =>
   have := zBo (zFk (.pair a b)) h; simp only [Ty.zeroW, wval, wcells]; congr 1; apply Array.toList_inj.1; rw [this]
   rfl
  | _ => simp [zeroB] at h
def baseB (P : Program) (T : TypeId) (t : Ty) : Bool := match P.info? T with
 | some i => (match i.zero with | some z => zeroB t z | none => false) && i.size == t.cells && decide (i.bytes ≤ 128) && decide (1 ≤ t.cells) && decide (t.cells ≤ 65536)
 | none => false
theorem zDz {P : Program} {T : TypeId} {t : Ty} (h : baseB P T t = true) : Base P T t := by
 unfold baseB at h
 split at h
 · rename_i i hi; simp only [Bool.and_eq_true, decide_eq_true_eq, beq_iff_eq] at h; obtain ⟨⟨⟨⟨h1, h2⟩, h3⟩, h4⟩, h5⟩ := h
   split at h1
   · rename_i z hz; exact ⟨i, hi, by rw [hz, zQH h1]; rfl, h2, h3, h4, h5⟩
   · simp at h1
 · simp at h
def cell1B (P : Program) (T : TypeId) : Bool := (match P.info? T with | some i => i.size == 1 | none => false) && (match P.underlying T with | some d => scalarDesc d | none => false)
theorem zH4 {P : Program} {T : TypeId} (h : cell1B P T = true) : Cell1 P T := by
 simp only [cell1B, Bool.and_eq_true] at h; obtain ⟨h1, h2⟩ := h
 split at h1
 · rename_i i hi
   split at h2
   · rename_i d hd; exact ⟨⟨i, hi, by simpa using h1⟩, d, hd, h2⟩
   · simp at h2
 · simp at h1
def Ty.parts : Ty → Nat
 | .pair _ b => 1 + b.parts
 | _ => 1
theorem zNv {u : Ty} {o : Nat} : ∀ (b a : Ty) (f : Nat), (Ty.pair a b).offs f = some (o, u) → f < (Ty.pair a b).parts := by
 intro b
 induction b generalizing o with
 | pair c d _ ihd =>
  intro a f h
  cases f with
  | zero => simp [Ty.parts]; omega
  | succ f =>
   simp only [Ty.offs] at h
   split at h
   · rename_i o' t' hh; simp only [Option.some.injEq, Prod.mk.injEq] at h; obtain ⟨_, rfl⟩ := h; have := ihd c f hh; simp only [Ty.parts] at this ⊢; omega
   · simp at h
 | _ =>
  intro a f h; rcases f with _ | _ | f <;> simp [Ty.offs, Ty.parts] at h ⊢
def structB (P : Program) (T : TypeId) (t : Ty) : Bool := match P.underlying T with
 | some (.struct fs) => fs.toList.all (fun fld => cell1B P fld.type) && (List.range t.parts).all fun f => match t.offs f with
   | some (o, u) => u.scalar && (match fs[f]? with | some fld => fld.offset == o | none => false)
   | none => true
 | _ => false
theorem zNh {P : Program} {T : TypeId} {a b : Ty} (h : structB P T (.pair a b) = true) : ∃ fs, P.underlying T = some (.struct fs) ∧ (∀ fld ∈ fs.toList, Cell1 P fld.type) ∧
      ∀ f o u, (Ty.pair a b).offs f = some (o, u) → u.scalar = true ∧ ∃ fld, fs[f]? = some fld ∧ fld.offset = o := by
 unfold structB at h
 split at h
 · rename_i fs hfs; simp only [Bool.and_eq_true, List.all_eq_true] at h; obtain ⟨h1, h2⟩ := h; refine ⟨fs, hfs, fun fld hm => zH4 (h1 fld hm), fun f o u ho => ?_⟩; have := h2 f (List.mem_range.2 (zNv b a f ho)); rw [ho] at this; simp only [Bool.and_eq_true] at this; refine ⟨this.1, ?_⟩; have h3 := this.2
   split at h3
   · rename_i fld hfld; exact ⟨fld, hfld, by simpa using h3⟩
   · simp at h3
 · simp at h
def tyOkB (P : Program) : Ty → TypeId → Bool
 | .int k, T => baseB P T (.int k) && (match P.underlying T with | some (.int k') => k' == k | _ => false)
 | .bool, T => baseB P T .bool && (match P.underlying T with | some .bool => true | _ => false)
 | .arr k m, T => baseB P T (.arr k m) && (match P.underlying T with | some (.array n e) => n == m && (match P.underlying e with | some (.int k') => k' == k | _ => false) && cell1B P e | _ => false) && P.eqGuardType P.depth T == false
 | .barr m, T => baseB P T (.barr m) && (match P.underlying T with | some (.array n e) => n == m && (match P.underlying e with | some .bool => true | _ => false) && cell1B P e | _ => false)
 | .slice u, T => baseB P T (.slice u) && (match P.underlying T with | some (.slice e) => tyOkB P u e | _ => false)
 | .pair a b, T => baseB P T (.pair a b) && (Ty.pair a b).leafs && structB P T (.pair a b)
theorem kX {P : Program} : ∀ {t : Ty} {T : TypeId}, tyOkB P t T = true → TyOK P t T
 | .int k, T, h => by
  simp only [tyOkB, Bool.and_eq_true] at h; refine ⟨zDz h.1, ?_⟩; have h2 := h.2
  split at h2
  · rename_i k' hk; simp only [beq_iff_eq] at h2; rw [hk, h2]
  · simp at h2
 | .bool, T, h => by
  simp only [tyOkB, Bool.and_eq_true] at h; refine ⟨zDz h.1, ?_⟩; have h2 := h.2
  split at h2
  · rename_i hk; exact hk
  · simp at h2
 | .arr k m, T, h => by
  simp only [tyOkB, Bool.and_eq_true, beq_iff_eq] at h; obtain ⟨⟨h1, h2⟩, h3⟩ := h; refine ⟨zDz h1, ?_, h3⟩
  split at h2
  · rename_i n e he; simp only [Bool.and_eq_true, beq_iff_eq] at h2; obtain ⟨⟨rfl, h4⟩, h5⟩ := h2
    split at h4
    · rename_i k' hk; simp only [beq_iff_eq] at h4; exact ⟨e, he, by rw [hk, h4], zH4 h5⟩
    · simp at h4
  · simp at h2
 | .barr m, T, h => by
  simp only [tyOkB, Bool.and_eq_true] at h; obtain ⟨h1, h2⟩ := h; refine ⟨zDz h1, ?_⟩
  split at h2
  · rename_i n e he; simp only [Bool.and_eq_true, beq_iff_eq] at h2; obtain ⟨⟨rfl, h4⟩, h5⟩ := h2
    split at h4
    · rename_i hk; exact ⟨e, he, hk, zH4 h5⟩
    · simp at h4
  · simp at h2
 | .slice u, T, h => by
  simp only [tyOkB, Bool.and_eq_true] at h; obtain ⟨h1, h2⟩ := h; refine ⟨zDz h1, ?_⟩
  split at h2
  · rename_i e he; exact ⟨e, he, kX h2⟩
  · simp at h2
 | .pair a b, T, h => by
  simp only [tyOkB, Bool.and_eq_true] at h; obtain ⟨⟨h1, h2⟩, h3⟩ := h; exact ⟨zDz h1, h2, zNh h3⟩
def isStrB (P : Program) (T : TypeId) : Bool := match P.underlying T with
 | some .string => true
 | _ => false
theorem zJx {P : Program} {E : Env} {tab : List (Nat × Ty)} (hE : E.ty = fun T => tab.lookup T) (h : tab.all (fun q => tyOkB P q.2 q.1) = true) (hs : E.str.all (isStrB P) = true) : EnvTy P E := by
 refine ⟨fun T t ht => ?_, fun T hT => ?_⟩
 · rw [hE] at ht; have := List.all_eq_true.1 h _ (kp ht); exact kX this
 · have hm : T ∈ E.str := by simpa using hT
   have := List.all_eq_true.1 hs T hm; unfold isStrB at this
   split at this
   · rename_i h'; exact h'
   · simp at this
def FdOk (P : Program) (fd : FD) : Prop := P.funcs[fd.id]? = some fd.fn ∧ (fd.fn.name == "runtime.NumGoroutine") = false ∧ fd.fn.body.isNone = false ∧ ((initPs [] fd.sig.params 0 0).2.map (·.1)).Nodup ∧ fd.sig.params.length ≤ fd.fn.ntmps
theorem FdOk.of {P : Program} {fd : FD} (h1 : P.funcs[fd.id]? = some fd.fn) (h2 : ((fd.fn.name == "runtime.NumGoroutine") || fd.fn.body.isNone || !decide ((initPs [] fd.sig.params 0 0).2.map (·.1)).Nodup || !decide (fd.sig.params.length ≤ fd.fn.ntmps)) = false) : FdOk P fd := by
 simp only [Bool.or_eq_false_iff, Bool.not_eq_false', decide_eq_true_eq] at h2; obtain ⟨⟨⟨h3, h4⟩, h5⟩, h6⟩ := h2; exact ⟨h1, h3, h4, h5, h6⟩
theorem EnvOk.of {P : Program} {E : Env} {tab : List (Nat × FD)} {etab : List (Nat × ExtK)} (h1 : EnvTy P E) (h2 : P.follows .mixedOrders = true) (h3 : E.fd = fun f => tab.lookup f)
  (h4 : ∀ q ∈ tab, FdOk P q.2 ∧ E.ld q.1 = none ∧ (∀ r ∈ q.2.loops, E.ld r.2.lid = some ⟨q.1, r.1, r.2, false⟩) ∧ ∀ r ∈ q.2.joins, E.ld r.2.lid = some ⟨q.1, r.1, r.2, true⟩)
  (h5 : E.ext = fun f => etab.lookup f) (h6 : ∀ r ∈ etab, ∃ fd, E.fd r.1 = some fd ∧ ExtOk P E fd r.2) : EnvOk P E where
 ty := h1
 mixed := h2
 fn v fd h := by
  rw [h3] at h; exact (h4 _ (kp h)).1
 ld v fd h := by
  rw [h3] at h; exact (h4 _ (kp h)).2
 ext v fd k h hx := by
  rw [h5] at hx; obtain ⟨fd', g1, g2⟩ := h6 _ (kp hx); rw [h] at g1; simp only [Option.some.injEq] at g1; exact g1 ▸ g2
end Go.Ev
