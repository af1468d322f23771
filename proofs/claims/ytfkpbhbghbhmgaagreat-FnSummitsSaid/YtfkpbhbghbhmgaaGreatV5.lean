/- Sorts by their contract. -/
import Derived.Test.YtfkpbhbghbhmgaaGreatV4
import Derived.Shelf.SlSortCmp.NoneTotal
set_option linter.unusedSimpArgs false
set_option linter.unusedVariables false
namespace Go.Ev
open Go.Shelf
theorem flat_get {α β : Type} {f : α → List β} {n : Nat} (hf : ∀ a, (f a).length = n) : ∀ (xs : List α) (i j : Nat), j < n → (xs.flatMap f)[i * n + j]? = (xs[i]?).bind fun a => (f a)[j]?
 | [], i, j, _ => by simp
 | a :: xs, 0, j, hj => by
  rw [List.flatMap_cons, List.getElem?_append_left (by rw [hf]; omega)]; simp
 | a :: xs, i + 1, j, hj => by
  rw [List.flatMap_cons, List.getElem?_append_right (by rw [hf]; rw [Nat.add_mul]; omega), hf]; rw [show (i + 1) * n + j - n = i * n + j by rw [Nat.add_mul]; omega, flat_get hf xs i j hj]; simp
theorem pairsOf_get {α : Type} (xs : List α) {i j : Nat} (hi : i < xs.length) (hj : j < xs.length) : (pairsOf xs)[i * xs.length + j]? = some (xs[i], xs[j]) := by
 unfold pairsOf; rw [flat_get (n := xs.length) (fun a => by simp) xs i j hj, List.getElem?_eq_getElem hi]; simp [List.getElem?_eq_getElem hj]
theorem pairsOf_len {α : Type} (xs : List α) : (pairsOf xs).length = xs.length * xs.length := by
 unfold pairsOf; have : ∀ ys : List α, (ys.flatMap fun a => xs.map fun b => (a, b)).length = ys.length * xs.length := by
  intro ys
  induction ys with
  | nil => simp
  | cons a ys ih => rw [List.flatMap_cons, List.length_append, ih]; simp [Nat.add_mul]; omega
 exact this xs
theorem cmpsK_spec {α : Type} {call : Oracle} {cmp : Nat} {t : Ty} {k : List Int → Option α} : ∀ (r : List (t.den × t.den)) (acc : List Int) (out : α), cmpsK call cmp t k r acc = some out →
  ∃ cs : List Int, cs.length = r.length ∧ k (acc ++ cs) = some out ∧ ∀ i p, r[i]? = some p → ∃ o, call cmp [⟨t, p.1⟩, ⟨t, p.2⟩] = some o ∧ cmpOut o = some (cs.getD i 0)
 | [], acc, out, h => ⟨[], rfl, by simpa [cmpsK] using h, fun i p hp => by simp at hp⟩
 | q :: r, acc, out, h => by
  simp only [cmpsK] at h
  cases ho : call cmp [⟨t, q.1⟩, ⟨t, q.2⟩] with
  | none => rw [ho] at h; simp at h
  | some o =>
   rw [ho] at h; simp only [Option.bind_some] at h
   cases hc : cmpOut o with
   | none => rw [hc] at h; simp at h
   | some c =>
    rw [hc] at h; simp only at h; obtain ⟨cs, h1, h2, h3⟩ := cmpsK_spec r _ out h; refine ⟨c :: cs, by simp [h1], by rw [← h2]; simp, fun i p hp => ?_⟩
    cases i with
    | zero =>
     simp only [List.getElem?_cons_zero, Option.some.injEq] at hp; subst hp; exact ⟨o, ho, by simpa using hc⟩
    | succ i =>
     obtain ⟨o', g1, g2⟩ := h3 i p (by simpa using hp); exact ⟨o', g1, by simpa using g2⟩
theorem cmpOut_some {o : List TV} {c : Int} (h : cmpOut o = some c) : o = [⟨.int .i64, c⟩] := by
 unfold cmpOut at h
 split at h
 · simp only [Option.some.injEq] at h; subst h
   rfl
 · simp at h
theorem TRep.oneCell {w : World} {own : Bool} {ok : Nat → Prop} : ∀ {t : Ty} {x : t.den} {cs : List Value}, TRep w own ok t x cs → ∀ v ∈ cs, v.oneCell' = true
 | .int _, _, _, h, v, hv => by simp only [TRep] at h; subst h; simp at hv; subst hv; rfl
 | .bool, _, _, h, v, hv => by simp only [TRep] at h; subst h; simp at hv; subst hv; rfl
 | .arr _ _, _, _, h, v, hv => by
  simp only [TRep] at h; obtain ⟨_, rfl⟩ := h; obtain ⟨y, _, rfl⟩ := List.mem_map.1 hv
  rfl
 | .barr _, _, _, h, v, hv => by
  simp only [TRep] at h; obtain ⟨_, rfl⟩ := h; obtain ⟨y, _, rfl⟩ := List.mem_map.1 hv
  rfl
 | .pair a b, _, _, h, v, hv => by
  simp only [TRep] at h; obtain ⟨c1, c2, rfl, h1, h2⟩ := h
  rcases List.mem_append.1 hv with hv | hv
  · exact h1.oneCell v hv
  · exact h2.oneCell v hv
 | .slice _, _, _, h, v, hv => by
  simp only [TRep] at h; obtain ⟨_, _, rfl, _⟩ := h; simp at hv; subst hv
  rfl
theorem TRep.flatTo {w : World} {own own' : Bool} {ok ok' : Nat → Prop} : ∀ {t : Ty} {x : t.den} {cs : List Value}, t.flat = true → TRep w own ok t x cs → TRep w own' ok' t x cs
 | .int _, _, _, _, h => by simpa only [TRep] using h
 | .bool, _, _, _, h => by simpa only [TRep] using h
 | .arr _ _, _, _, _, h => by simpa only [TRep] using h
 | .barr _, _, _, _, h => by simpa only [TRep] using h
 | .pair a b, _, _, hf, h => by
  simp only [Ty.flat, Bool.and_eq_true] at hf; simp only [TRep] at h ⊢; obtain ⟨c1, c2, e, h1, h2⟩ := h; exact ⟨c1, c2, e, h1.flatTo hf.1, h2.flatTo hf.2⟩
 | .slice _, _, _, hf, h => by simp [Ty.flat] at hf
theorem grown_of {W w' : World} (hl : Like W w') (hs : W.heap.size ≤ w'.heap.size) (hb : ∀ b, b < W.heap.size → w'.heap[b]? = W.heap[b]?) :
  ∃ q os, w' = Sort.grow (W.drewN q) os := by
 obtain ⟨h1, h2, h3, h4⟩ := hl; refine ⟨w'.drawn - W.drawn, w'.heap.extract W.heap.size w'.heap.size, ?_⟩; have hd : w'.drawn = W.drawn + (w'.drawn - W.drawn) := by omega
 have hh : w'.heap = W.heap ++ w'.heap.extract W.heap.size w'.heap.size := by
  apply Array.ext_getElem?; intro k; rw [Array.getElem?_append]
  split
  · rename_i hk; exact hb k hk
  · rename_i hk; rw [Array.getElem?_extract]
    by_cases hk2 : k < w'.heap.size
    · rw [if_pos (by omega)]; congr 1; omega
    · rw [if_neg (by omega), Array.getElem?_eq_none (by omega)]
 cases w'
 cases W
 simp only [Sort.grow, World.drewN, World.mk.injEq] at *; exact ⟨hh, h2, hd, h1, h3⟩
section
variable {P : Program} {E : Env} {w : World}
theorem first_inv' {fd : FD} (q4 : ((initPs [] fd.sig.params 0 0).2.map (·.1)).Nodup) (q5 : fd.sig.params.length ≤ fd.fn.ntmps) {Ts : List TypeId} {tvs : List TV} {vs : List Value} (h : ArgsRel P w fd.sig.params Ts tvs vs) :
  ∃ ρ, Inv w Non All (fixOf fd vs) (fd.init tvs) ρ noCol ⟨vs.toArray ++ Array.replicate (fd.fn.ntmps - vs.length) undef, []⟩ w := by
 obtain ⟨vs', objs, e, hl, hr⟩ := init_args h [] 0; simp only [List.nil_append, List.length_nil] at e; have hnd : (objs.map (·.1)).Nodup := by
  have := initPs_len fd.sig.params tvs [] 0 0 0; rw [e] at this; simp only at this; rw [this]; exact q4
 obtain ⟨L, g1, g2⟩ := hr hnd; obtain ⟨hlen, hfix⟩ := h.len; have hinit : fd.init tvs = ⟨vs' ++ List.replicate (fd.fn.ntmps - vs'.length) .undef, Objs.none.upds objs⟩ := by simp only [FD.init, e]
 rw [hinit]
 refine ⟨L, rfl, by simp; omega, fun i u hi => ?_, fun o y hy => ?_, fun b o c hb => by simp at hb, fun b _ _ => rfl, Nat.le_refl _, fun q hq => ?_, Like.refl w⟩
 · rw [List.getElem?_append] at hi
   split at hi
   · rename_i hil; have hiv : i < vs.length := by omega
     have := g2 (Objs.none.upds objs) L (fun q hq => ⟨rfl, upds_in (List.mem_map_of_mem hq)⟩) i u _ hi (List.getElem?_eq_getElem hiv); have e2 : (vs.toArray ++ Array.replicate (fd.fn.ntmps - vs.length) undef).getD i Go.undef = vs[i] := by
      simp [Array.getD_eq_getD_getElem?, Array.getElem?_append, hiv]
     simp only [e2]; exact this
   · rw [List.getElem?_replicate] at hi
     split at hi
     · simp only [Option.some.injEq] at hi; exact .inl hi.symm
     · simp at hi
 · rcases upds_mem_or hy with hm | ⟨hm, _⟩
   · refine RoRow.rel ?_ rfl; have := g1 _ hm; simp only at this
     cases y with
     | row m u xs =>
      cases m with
      | ro =>
       obtain ⟨k1, k2, k3⟩ := this; exact ⟨k1, k2.frame id (Nat.le_refl _) (fun b _ hb => ⟨⟨hb.1, .inl trivial⟩, rfl⟩), k3.frame id (Nat.le_refl _) (fun _ _ b _ hb => ⟨⟨hb.1, .inl trivial⟩, rfl⟩) (fun _ _ _ => rfl)⟩
      | own => exact this.elim
      | sh => exact this.elim
     | box _ _ => exact this.elim
     | dead => exact this.elim
   · simp [Objs.none] at hm
 · simp only [fixOf, hfix 0] at hq; simp at hq
theorem cmp_calls {fd : FD} (q4 : ((initPs [] fd.sig.params 0 0).2.map (·.1)).Nodup) (q5 : fd.sig.params.length ≤ fd.fn.ntmps) (hres : fd.sig.res = [(.own, false, .int .i64)]) {Ts : List TypeId} {tvs : List TV} {vs : List Value}
  (h : ArgsRel P w fd.sig.params Ts tvs vs) {c : Int} (hspec : FnSpec P E fd tvs [⟨.int .i64, c⟩]) : Calls P fd.id vs.toArray w fun e w' => e = .returned (.int .i64 c) ∧ ∃ q os, w' = Sort.grow (w.drewN q) os := by
 obtain ⟨ρ, hi⟩ := first_inv' q4 q5 h; obtain ⟨hlen, hfix⟩ := h.len; refine Calls.mono (hspec w Non All ρ noCol vs hlen.symm hi) ?_; rintro e w' ⟨s', ρ', col', a', ws, rfl, hi', hfin, hws, _⟩; refine ⟨?_, grown_of hi'.same hi'.mono (fun k hk => hi'.low k hk (fun h => h))⟩; obtain ⟨ws2, xs, us, ro, ys, vs2, _, r1, r2, r3, r4, r5, r6⟩ := fin_split hfin; rw [hws] at r1; simp only [Option.some.injEq] at r1; subst r1; rw [hres] at r2
 match ws, r2 with
 | [u], r2 =>
  simp only [packRes] at r2
  split at r2
  · rename_i x1 u1 v1 x2 u2 v2 h1 h2; simp only [Option.some.injEq, Prod.mk.injEq] at h2 r2; obtain ⟨rfl, rfl, rfl⟩ := h2; obtain ⟨rfl, _, _⟩ := r2; simp only [packRes1] at h1
    split at h1
    · rename_i x us' hp
      split at h1
      · simp only [Option.some.injEq, Prod.mk.injEq] at h1; obtain ⟨rfl, _, _⟩ := h1
        cases u with
        | c cc =>
         cases cc with
         | int k b =>
          simp only [packW] at hp
          split at hp
          · rename_i hk; subst hk; simp only [Option.some.injEq, Prod.mk.injEq] at hp; obtain ⟨rfl, _⟩ := hp; simp only [List.append_nil, List.cons_append, List.nil_append, List.cons.injEq, TV.mk.injEq, heq_eq_eq, true_and] at r6; rw [r6.1]
            rfl
          · simp at hp
         | _ => simp [packW] at hp
        | _ => simp [packW] at hp
      · simp at h1
    · simp at h1
  · simp at r2
 | [], r2 => simp [packRes] at r2
 | _ :: _ :: _, r2 =>
  simp only [packRes] at r2
  split at r2
  · rename_i h2; simp at h2
  · simp at r2
end
end Go.Ev
namespace Go.Ev
open Go.Shelf
section
variable {α : Type} [Inhabited α] (enc : α → List Value) (k : Nat) (w : World) (blk off n : Nat) (d : Array α) (os : Array Go.Obj)
theorem sortW_size : w.heap.size ≤ (Go.Proofs.sortWorldK enc k w blk off n d os).heap.size := Go.Proofs.size_sortWorldK_c enc k w blk off n d os
theorem sortW_other {b : Nat} (hb : b < w.heap.size) (hne : b ≠ blk) : (Go.Proofs.sortWorldK enc k w blk off n d os).heap[b]? = w.heap[b]? := by
 unfold Go.Proofs.sortWorldK Sort.grow Sort.putRowK Sort.putRow Sort.mapBlock Sort.ahead; simp only; rw [Array.getElem?_append_left (by simpa using hb), Array.getElem?_modify, if_neg (Ne.symm hne)]
theorem sortW_block {cs : Array Value} {T : TypeId} {fr : Nat × Nat} (h : w.heap[blk]? = some (.cells cs T fr)) :
  ∃ cs', (Go.Proofs.sortWorldK enc k w blk off n d os).heap[blk]? = some (.cells cs' T fr) ∧ cs'.size = cs.size := by
 have hb : blk < w.heap.size := by
  rw [Array.getElem?_eq_some_iff] at h; exact h.1
 refine ⟨Sort.putCells id off (Sort.flatK enc k d) cs, ?_, by simp [Sort.putCells]⟩; unfold Go.Proofs.sortWorldK Sort.grow Sort.putRowK Sort.putRow Sort.mapBlock Sort.ahead; simp only; rw [Array.getElem?_append_left (by simpa using hb), Array.getElem?_modify, if_pos rfl, h]
 rfl
theorem sortW_like : Like w (Go.Proofs.sortWorldK enc k w blk off n d os) := ⟨rfl, rfl, rfl, Nat.le_add_right _ _⟩
end
theorem swo_of {n : Nat} {lt : Fin n → Fin n → Bool} (h : swoB lt = true) : Sort.SWO lt := by
 simp only [swoB, Bool.and_eq_true, decide_eq_true_eq] at h; exact ⟨h.1.1, h.1.2, h.2⟩
theorem pick_enc {w : World} {ok : Nat → Prop} {t : Ty} {xs : List t.den} {addr : Option Addr} (h : Elems w false (fun _ => ok) t xs addr) :
  ∃ enc : Fin xs.length → List Value, ∀ i : Fin xs.length, TRep w false ok t xs[i.val] (enc i) ∧ ∀ j v, (enc i)[j]? = some v → cellAt w addr (i.val * t.cells + j) = some v :=
 ⟨fun i => (h i.val _ (List.getElem?_eq_getElem i.isLt)).choose, fun i => (h i.val _ (List.getElem?_eq_getElem i.isLt)).choose_spec⟩
theorem Elems.weak {w : World} {m : Mode} {col : Col} {Y : Nat → Prop} {o : Nat} {t : Ty} {xs : List t.den} {addr : Option Addr} (hm : m = .own ∧ t.flat = true ∨ m = .sh) (h : Elems w m.deep (okE col Y m o) t xs addr) :
  Elems w false (fun _ => RO col Y) t xs addr := by
 rcases hm with ⟨rfl, hf⟩ | rfl
 · intro i x hx; obtain ⟨ys, g1, g2⟩ := h i x hx; exact ⟨ys, g1.flatTo hf, g2⟩
 · exact h
section
variable {P : Program} {E : Env}
theorem sort_init {fd : FD} {f : FuncId} {t : Ty} {m : Mode} (hm : (m = .own ∧ fd.sig.params = [.mut (.slice t), .fn f []]) ∨ (m = .sh ∧ fd.sig.params = [.muts (.slice t), .fn f []])) (tvs : List TV) :
  fd.init tvs = ⟨[.w (.c (.sl 1000)), .fn f []] ++ List.replicate (fd.fn.ntmps - 2) .undef, Objs.none.upd 1000 (.row m t (getTV (.slice t) tvs 0))⟩ := by
 rcases hm with ⟨rfl, hp⟩ | ⟨rfl, hp⟩ <;> simp [FD.init, hp, initPs, PK.init, unpackW, unpackCaps, Objs.upds, idOf]
theorem sort_finish {fd : FD} {f : FuncId} {t : Ty} {m : Mode} (hm : (m = .own ∧ fd.sig.params = [.mut (.slice t), .fn f []]) ∨ (m = .sh ∧ fd.sig.params = [.muts (.slice t), .fn f []])) (hr : fd.sig.res = []) (hres : fd.fn.results = #[])
  (l : List V) (ys : List t.den) : fd.finish E ⟨[.w (.c (.sl 1000)), .fn f []] ++ l, Objs.none.upd 1000 (.row m t ys)⟩ = some [⟨.slice t, ys⟩] ∧ resWs E ⟨[.w (.c (.sl 1000)), .fn f []] ++ l, Objs.none.upd 1000 (.row m t ys)⟩ fd.fn.results.toList = some [] := by
 rcases hm with ⟨rfl, hp⟩ | ⟨rfl, hp⟩ <;>
  simp [FD.finish, hr, hres, hp, resWs, packRes, backPs, PK.back, packW, rowAs, Objs.upd, apart]
theorem sort_ok {ρr : Ren} (L : Go.Proofs.SlLaysF0.n6 P ρr) {fd fd2 : FD} {cmp : Nat} {t : Ty} {T : TypeId} (hT : TyOK P t T) (hsc : t.scalar = false)
  (aE : ∀ w, (isAgg (ρr.t 24)).run P w = .ok true w) (zE : ∀ w, (Go.sizeOf (ρr.t 24)).run P w = .ok t.cells w) (hid : ρr.f 6 = fd.id)
  (hm : (fd.sig.params = [.mut (.slice t), .fn fd2.id []] ∧ t.flat = true) ∨ fd.sig.params = [.muts (.slice t), .fn fd2.id []]) (hr : fd.sig.res = []) (hres : fd.fn.results = #[])
  (h2 : E.fd cmp = some fd2) (ok2 : FdOk P fd2) (hp2 : fd2.sig.params = [.ro t, .ro t]) (hr2 : fd2.sig.res = [(.own, false, .int .i64)]) : ExtOk P E fd (.sort cmp t) := by
 obtain ⟨m, hm1, hm2⟩ : ∃ m : Mode, (m = .own ∧ t.flat = true ∨ m = .sh) ∧ ((m = .own ∧ fd.sig.params = [.mut (.slice t), .fn fd2.id []]) ∨ (m = .sh ∧ fd.sig.params = [.muts (.slice t), .fn fd2.id []])) := by
  rcases hm with ⟨h, hf⟩ | h
  · exact ⟨.own, .inl ⟨rfl, hf⟩, .inl ⟨rfl, h⟩⟩
  · exact ⟨.sh, .inr rfl, .inr ⟨rfl, h⟩⟩
 have hmine : m.mine = true := by rcases hm1 with ⟨rfl, _⟩ | rfl <;> rfl
 obtain ⟨o1, o2, o3, o4, o5⟩ := ok2; have eg : ∀ args w, (callFunc fd2.id args).run P w = .ok (.enter fd2.id args) w := by
  intro args w; have q2' : ¬ fd2.fn.name = "runtime.NumGoroutine" := by simpa using o2
  have q3' : ¬ fd2.fn.body = none := fun e => by rw [e] at o3; simp at o3
  simp [callFunc, o1, q2', q3']
 intro call tvs outs hcall hx w0 X Y0 ρ col args hal hin; rw [sort_init hm2] at hin; simp only [extE] at hx; generalize hxs : getTV (.slice t) tvs 0 = xs at hx hin; have hal2 : args.length = 2 := by rw [hal]; rcases hm2 with ⟨_, h⟩ | ⟨_, h⟩ <;> rw [h] <;> rfl
 obtain ⟨a0, a1, rfl⟩ : ∃ a0 a1, args = [a0, a1] := by
  match args, hal2 with
  | [a0, a1], _ => exact ⟨a0, a1, rfl⟩
 have e0 : a0 = .slice (ρ 1000).addr (ρ 1000).len (ρ 1000).cap := by
  have := hin.tmps 0 (.w (.c (.sl 1000))) (by simp)
  rcases this with h | ⟨_, h⟩
  · simp at h
  · simpa [vval, wval, cval, Array.getD_eq_getD_getElem?, Array.getElem?_append] using h
 have e1 : a1 = .func (.func fd2.id) #[] #[] := by
  have := hin.tmps 1 (.fn fd2.id []) (by simp)
  rcases this with h | ⟨_, h⟩
  · simp at h
  · simpa [vval, Array.getD_eq_getD_getElem?, Array.getElem?_append] using h
 subst e0 e1; obtain ⟨k1, k2, k3⟩ := hin.objs 1000 (.row m t xs) (by simp [Objs.upd]); rw [← hid]
 cases xs with
 | nil =>
  simp only [sortE, Option.some.injEq] at hx; subst hx; have hl : (ρ 1000).len = 0 := k1; have hc : Calls P (ρr.f 6) #[.slice (ρ 1000).addr (ρ 1000).len (ρ 1000).cap, .func (.func fd2.id) #[] #[]] w0 fun e w' => e = .returned (.tuple #[]) ∧ w' = w0 := by
   rw [hl]; exact Go.Proofs.AnyF.slices_SortFunc_none L (ρ 1000).addr (ρ 1000).cap _ w0
  refine Calls.mono hc ?_; rintro e w' ⟨rfl, rfl⟩; obtain ⟨f1, f2⟩ := sort_finish (E := E) hm2 hr hres (List.replicate (fd.fn.ntmps - 2) .undef) []; exact ⟨_, ρ, col, _, [], rfl, hin, f1, f2, fun x hx => by simp at hx⟩
 | cons x r =>
  simp only [sortE] at hx
  split at hx
  · rename_i hlim; obtain ⟨cs, c1, c2, c3⟩ := cmpsK_spec _ _ _ hx; simp only [List.nil_append] at c2
    split at c2
    · rename_i hswo; simp only [Option.some.injEq] at c2; have hlen : (ρ 1000).len = r.length + 1 := k1; obtain ⟨blk, off, haddr⟩ := row_addr k2 (by simp); obtain ⟨_, hblk, hcol, hown⟩ := k2.2.2 _ haddr (.inl (by simp)); simp only at hblk hcol hown; obtain ⟨ccs, cT, hcells, hroom⟩ := hown hmine; have hcol' : col blk = some (1000, 0) := by rcases hm1 with ⟨rfl, _⟩ | rfl <;> exact hcol
      have hX : X blk := by
       rcases (hin.cold _ _ _ hcol').1 with h | h
       · omega
       · exact h
      obtain ⟨enc, henc⟩ := pick_enc (Elems.weak hm1 k3); have hkl : ∀ i, (enc i).length = t.cells := fun i => (henc i).1.len; have hone : ∀ i, ∀ v ∈ enc i, v.oneCell' = true := fun i => (henc i).1.oneCell; have hO : Sort.SWO (Go.Proofs.ltOf (cfC (r.length + 1) cs)) := swo_of hswo; have hro : ∀ b, RO col (fun b => Y0 b ∨ w0.heap.size ≤ b ∨ X b) b → b ≠ blk := by
       rintro b ⟨h, _⟩ rfl; rcases h with h | ⟨o, i, h⟩ <;> rw [hcol'] at h <;> simp at h
      have hcmp : ∀ sz, Go.Proofs.CmpLays P fd2.id #[] (α := Fin (r.length + 1)) enc t.cells (cfC (r.length + 1) cs) blk off sz w0 := by
       intro sz m' os dk _ i j; have hi := i.isLt; have hj := j.isLt; obtain ⟨o, g1, g2⟩ := c3 (i.val * (r.length + 1) + j.val) _ (pairsOf_get (x :: r) (i := i.val) (j := j.val) hi hj); have g3 := cmpOut_some g2; subst g3; have hspec := hcall _ _ _ _ h2 g1; have fr : ∀ i : Fin (r.length + 1), TRep (Go.Proofs.sortWorldK enc t.cells w0 blk off m' dk os) false (fun _ => True) t (x :: r)[i.val] (enc i) := fun i =>
        (henc i).1.frame id (sortW_size ..) (fun b hb hr => ⟨trivial, sortW_other _ _ _ _ _ _ _ _ hb (hro b hr)⟩)
       have := cmp_calls (P := P) (E := E) (w := Go.Proofs.sortWorldK enc t.cells w0 blk off m' dk os) o4 o5 hr2 (Ts := [T, T]) (vs := [.agg (enc i).toArray, .agg (enc j).toArray])
        (by rw [hp2]; exact .cons ⟨hT, enc i, fr i, fun h => by rw [hsc] at h; simp at h, fun _ => rfl⟩ (.cons ⟨hT, enc j, fr j, fun h => by rw [hsc] at h; simp at h, fun _ => rfl⟩ .nil)) hspec
       exact this
      have hds : (Array.ofFn fun i : Fin (r.length + 1) => i).size = r.length + 1 := by simp
      have hget : ∀ j, j < r.length + 1 → ((Array.ofFn fun i : Fin (r.length + 1) => i)[j]!).val = j := by
       intro j hj; rw [getElem!_pos _ j (by simpa using hj)]; simp
      have hH : Sort.HoldsK enc t.cells w0 blk off (Array.ofFn fun i : Fin (r.length + 1) => i) := by
       intro j hj; rw [Sort.size_flatK, hds] at hj; rw [Sort.get_flatK _ _ _ _ (by rw [hds]; exact hj)]
       have hk0 : 0 < t.cells := by rcases Nat.eq_zero_or_pos t.cells with h | h; · rw [h] at hj; simp at hj
                                    · exact h
       have hq : j / t.cells < r.length + 1 := (Nat.div_lt_iff_lt_mul hk0).2 hj; have hmod : j % t.cells < t.cells := Nat.mod_lt _ hk0; have hg := hget _ hq; generalize (Array.ofFn fun i : Fin (r.length + 1) => i)[j / t.cells]! = q at hg ⊢; have hv : (enc q)[j % t.cells]? = some (enc q)[j % t.cells]! := by
        rw [getElem!_pos _ _ (by rw [hkl]; exact hmod)]; exact List.getElem?_eq_getElem _
       have := (henc q).2 _ _ hv; rw [hg, haddr] at this; simp only [cellAt, Option.bind_some] at this; rw [Nat.div_add_mod' j t.cells] at this; refine ⟨this, ?_⟩; simp only [World.frozen?, hcells]; simp
      have hsz : (Array.ofFn fun i : Fin (r.length + 1) => i).size < 4611686018427387904 := by
       rw [hds]; simp only [lim] at hlim; omega
      have hc := Go.Proofs.AnyQ.slices_SortFunc_eq (α := Fin (r.length + 1)) L t.cells aE zE enc hkl hone (cfC (r.length + 1) cs) hO fd2.id #[] blk off (ρ 1000).cap _ w0 eg (hcmp _) hH hblk hsz; have hperm := (Go.Sort.pdq_sorts (Go.Proofs.ltOf (cfC (r.length + 1) cs)) hO (Array.ofFn fun i : Fin (r.length + 1) => i) 0 (r.length + 1) (Lib.bitLen (r.length + 1)) true true (Nat.zero_le _) (by rw [hds]; exact Nat.le_refl _) (Or.inl rfl)).1.1; rw [hds] at hc hperm; have hc2 := Calls.mono (P := P) (f := ρr.f 6) (args := #[.slice (ρ 1000).addr (ρ 1000).len (ρ 1000).cap, .func (.func fd2.id) #[] #[]]) (w := w0) (by rw [haddr, hlen]; exact hc) (fun e w' h => h); obtain ⟨act, hin⟩ := Exists.intro (p := fun act => Inv w0 X Y0 (fixOf fd [.slice (ρ 1000).addr (ρ 1000).len (ρ 1000).cap, .func (.func fd2.id) #[] #[]]) _ ρ col act w0) _ hin; refine Calls.mono hc2 ?_; rintro e w' ⟨rfl, nn, os, rfl⟩; have hsb : Sort.pdq (Go.Proofs.ltOf (cfC (r.length + 1) cs)) (Array.ofFn fun i : Fin (r.length + 1) => i) 0 (r.length + 1) (Lib.bitLen (r.length + 1)) true true = sortBy (ltC (r.length + 1) cs) := rfl; rw [hsb] at hperm; rw [hsb]; generalize sortBy (ltC (r.length + 1) cs) = out at hperm c2; obtain ⟨f1, f2⟩ := sort_finish (E := E) hm2 hr hres (List.replicate (fd.fn.ntmps - 2) .undef) (out.toList.map fun i => (x :: r).getD i.val x); refine ⟨_, ρ, col, act, [], rfl, ?_, by rw [← c2]; exact f1, f2, fun x hx => by simp at hx⟩; have hst : Stays (Objs.none.upd 1000 (.row m t (x :: r))) (Objs.none.upd 1000 (.row m t (out.toList.map fun i => (x :: r).getD i.val x))) ρ ρ := by
       intro o ho; refine ⟨?_, rfl⟩; simp only [Objs.upd] at ho ⊢
       split
       · simp
       · rename_i hne; rw [if_neg hne] at ho; exact ho
      have hHW := Go.Proofs.holdsK_sortWorldK_c enc t.cells w0 blk off _ out nn os hH hblk (by rw [hds]; exact hperm)
      refine ⟨hin.defers, hin.size, fun i v hv => hst.vrel (hin.tmps i v hv), fun o y hy => ?_, fun b o c hb => ?_, fun b hb hx => ?_, Nat.le_trans hin.mono (sortW_size ..), hin.fixed, hin.same.trans (sortW_like ..)⟩
      · simp only [Objs.upd] at hy
        split at hy
        · rename_i ho; subst ho; simp only [Option.some.injEq] at hy; subst hy; have hyl : (out.toList.map fun i => (x :: r).getD i.val x).length = r.length + 1 := by simp [hperm]
          refine ⟨by rw [hyl]; exact hlen, ?_, ?_⟩
          · rw [hyl]; refine ⟨k2.1, fun h => (by rw [haddr] at h; simp at h), fun a ha _ => ?_⟩; rw [haddr] at ha; simp only [Option.some.injEq] at ha; subst ha; refine ⟨rfl, Nat.lt_of_lt_of_le hblk (sortW_size ..), hcol, fun _ => ?_⟩; obtain ⟨cs', g1, g2⟩ := sortW_block enc t.cells w0 blk off nn out os hcells; exact ⟨cs', cT, g1, by rw [g2]; exact hroom⟩
          · intro i y hy; rw [List.getElem?_map, Option.map_eq_some_iff] at hy; obtain ⟨q, hq, rfl⟩ := hy; have hio : i < out.size := by
             have := (List.getElem?_eq_some_iff.1 hq).1; simpa using this
            have hq' : out[i]! = q := by
             rw [getElem!_pos out i hio]; have := (List.getElem?_eq_some_iff.1 hq).2; simpa using this
            have hy : (x :: r).getD q.val x = (x :: r)[q.val] := by
             have hql : q.val < (x :: r).length := q.isLt; rw [List.getD_eq_getElem?_getD, List.getElem?_eq_getElem hql]
             rfl
            rw [hy]
            refine ⟨enc q, ?_, fun j v hv => ?_⟩
            · have fr : TRep (Go.Proofs.sortWorldK enc t.cells w0 blk off nn out os) false (RO col (fun b => Y0 b ∨ w0.heap.size ≤ b ∨ X b)) t (x :: r)[q.val] (enc q) :=
               (henc q).1.frame id (sortW_size ..) (fun b hb hr => ⟨hr, sortW_other _ _ _ _ _ _ _ _ hb (hro b hr)⟩)
              rcases hm1 with ⟨rfl, hf⟩ | rfl
              · exact fr.flatTo hf
              · exact fr
            · have hjk : j < t.cells := by rw [← hkl q]; exact (List.getElem?_eq_some_iff.1 hv).1
              have := (hHW.cell hio hjk).1; rw [haddr]; simp only [cellAt, Option.bind_some]; rw [← Nat.add_assoc, this, hq', getElem!_pos _ _ (by rw [hkl]; exact hjk), ← (List.getElem?_eq_some_iff.1 hv).2]
        · simp [Objs.none] at hy
      · obtain ⟨g1, g2, g3⟩ := hin.cold b o c hb; exact ⟨g1, Nat.lt_of_lt_of_le g2 (sortW_size ..), (hst o g3).1⟩
      · rw [sortW_other _ _ _ _ _ _ _ _ hb (fun e => hx (e ▸ hX))]
    · simp at c2
  · simp at hx
end
end Go.Ev
