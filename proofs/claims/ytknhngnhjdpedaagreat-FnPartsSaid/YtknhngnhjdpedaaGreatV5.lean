/- Sorts and deletions by their contract. -/
import Derived.Test.YtknhngnhjdpedaaGreatV4
import Derived.Shelf.SlSortCmp.NoneTotal
set_option linter.unusedSimpArgs false
set_option linter.unusedVariables false
namespace Go.Ev
open Go.Shelf
theorem zNF {α β : Type} {f : α → List β} {n : Nat} (hf : ∀ a, (f a).length = n) : ∀ (xs : List α) (i j : Nat), j < n → (xs.flatMap f)[i * n + j]? = (xs[i]?).bind fun a => (f a)[j]?
 | [], i, j, _ => by simp
 | a :: xs, 0, j, hj => by
  rw [List.flatMap_cons, List.getElem?_append_left (by rw [hf]; omega)]; simp
 | a :: xs, i + 1, j, hj => by
  rw [List.flatMap_cons, List.getElem?_append_right (by rw [hf]; rw [Nat.add_mul]; omega), hf]; rw [show (i + 1) * n + j - n = i * n + j by rw [Nat.add_mul]; omega, zNF hf xs i j hj]; simp
theorem zLr {α : Type} (xs : List α) {i j : Nat} (hi : i < xs.length) (hj : j < xs.length) : (pairsOf xs)[i * xs.length + j]? = some (xs[i], xs[j]) := by
 unfold pairsOf; rw [zNF (n := xs.length) (fun a => by simp) xs i j hj, List.getElem?_eq_getElem hi]; simp [List.getElem?_eq_getElem hj]
theorem zJE {α : Type} {call : Oracle} {cmp : Nat} {t : Ty} {k : List Int → Option α} : ∀ (r : List (t.den × t.den)) (acc : List Int) (out : α), cmpsK call cmp t k r acc = some out →
  ∃ cs : List Int, cs.length = r.length ∧ k (acc ++ cs) = some out ∧ ∀ i p, r[i]? = some p → ∃ o, call cmp [⟨t, p.1⟩, ⟨t, p.2⟩] = some o ∧ cmpOut o = some (cs.getD i 0)
 | [], acc, out, h => ⟨[], rfl, by simpa [cmpsK] using h, fun i p hp => by simp at hp⟩
 | q :: r, acc, out, h => by
  simp only [cmpsK] at h
  cases ho : call cmp [⟨t, q.1⟩, ⟨t, q.2⟩] with
  | none => rw [ho] at h; simp at h
  | some o =>
   rw [ho] at h; simp only [Option.bind_some] at h
   cases hc : cmpOut o with
   | none => rw [hc] at h; simp at h
   | some c =>
    rw [hc] at h; simp only at h; obtain ⟨cs, h1, h2, h3⟩ := zJE r _ out h; refine ⟨c :: cs, by simp [h1], by rw [← h2]; simp, fun i p hp => ?_⟩
    cases i with
    | zero =>
     simp only [List.getElem?_cons_zero, Option.some.injEq] at hp; subst hp; exact ⟨o, ho, by simpa using hc⟩
    | succ i =>
     obtain ⟨o', g1, g2⟩ := h3 i p (by simpa using hp); exact ⟨o', g1, by simpa using g2⟩
theorem zL9 {o : List TV} {c : Int} (h : cmpOut o = some c) : o = [⟨.int .i64, c⟩] := by
 unfold cmpOut at h
 split at h
 · simp only [Option.some.injEq] at h; subst h
   rfl
 · simp at h
theorem TRep.oneCell {w : World} {own : Bool} {ok : Nat → Prop} : ∀ {t : Ty} {x : t.den} {cs : List Value}, TRep w own ok t x cs → ∀ v ∈ cs, v.oneCell' = true
 | .int _, _, _, h, v, hv => by simp only [TRep] at h; subst h; simp at hv; subst hv; rfl
 | .bool, _, _, h, v, hv => by simp only [TRep] at h; subst h; simp at hv; subst hv; rfl
 | .arr _ _, _, _, h, v, hv => by
  simp only [TRep] at h; obtain ⟨_, rfl⟩ := h; obtain ⟨y, _, rfl⟩ := List.mem_map.1 hv
  rfl
 | .barr _, _, _, h, v, hv => by
  simp only [TRep] at h; obtain ⟨_, rfl⟩ := h; obtain ⟨y, _, rfl⟩ := List.mem_map.1 hv
  rfl
 | .pair a b, _, _, h, v, hv => by
  simp only [TRep] at h; obtain ⟨c1, c2, rfl, h1, h2⟩ := h
  rcases List.mem_append.1 hv with hv | hv
  · exact h1.oneCell v hv
  · exact h2.oneCell v hv
 | .slice _, _, _, h, v, hv => by
  simp only [TRep] at h; obtain ⟨_, _, rfl, _⟩ := h; simp at hv; subst hv
  rfl
theorem zQb {W w' : World} (hl : Like W w') (hs : W.heap.size ≤ w'.heap.size) (hb : ∀ b, b < W.heap.size → w'.heap[b]? = W.heap[b]?) :
  ∃ q os, w' = Sort.grow (W.drewN q) os := by
 obtain ⟨h1, h2, h3, h4⟩ := hl; refine ⟨w'.drawn - W.drawn, w'.heap.extract W.heap.size w'.heap.size, ?_⟩; have hd : w'.drawn = W.drawn + (w'.drawn - W.drawn) := by omega
 have hh : w'.heap = W.heap ++ w'.heap.extract W.heap.size w'.heap.size := by
  apply Array.ext_getElem?; intro k; rw [Array.getElem?_append]
  split
  · rename_i hk; exact hb k hk
  · rename_i hk; rw [Array.getElem?_extract]
    by_cases hk2 : k < w'.heap.size
    · rw [if_pos (by omega)]; congr 1; omega
    · rw [if_neg (by omega), Array.getElem?_eq_none (by omega)]
 cases w'
 cases W
 simp only [Sort.grow, World.drewN, World.mk.injEq] at *; exact ⟨hh, h2, hd, h1, h3⟩
section
variable {P : Program} {E : Env} {w : World}
theorem zN5 {fd : FD} (q4 : ((initPs [] fd.sig.params 0 0).2.map (·.1)).Nodup) (q5 : fd.sig.params.length ≤ fd.fn.ntmps) {Ts : List TypeId} {tvs : List TV} {vs : List Value} (h : ArgsRel P w fd.sig.params Ts tvs vs) :
  ∃ ρ, Inv w Non All (fixOf fd vs) (fd.init tvs) ρ noCol ⟨vs.toArray ++ Array.replicate (fd.fn.ntmps - vs.length) undef, []⟩ w := by
 obtain ⟨vs', objs, e, hl, hr⟩ := zKv h [] 0; simp only [List.nil_append, List.length_nil] at e; have hnd : (objs.map (·.1)).Nodup := by
  have := zDs fd.sig.params tvs [] 0 0 0; rw [e] at this; simp only at this; rw [this]; exact q4
 obtain ⟨L, g1, g2⟩ := hr hnd; obtain ⟨hlen, hfix⟩ := h.len; have hinit : fd.init tvs = ⟨vs' ++ List.replicate (fd.fn.ntmps - vs'.length) .undef, Objs.none.upds objs⟩ := by simp only [FD.init, e]
 rw [hinit]
 refine ⟨L, rfl, by simp; omega, fun i u hi => ?_, fun o y hy => ?_, fun b o c hb => by simp at hb, fun b _ _ => rfl, Nat.le_refl _, fun q hq => ?_, Like.refl w⟩
 · rw [List.getElem?_append] at hi
   split at hi
   · rename_i hil; have hiv : i < vs.length := by omega
     have := g2 (Objs.none.upds objs) L (fun q hq => ⟨rfl, zFp (List.mem_map_of_mem hq)⟩) i u _ hi (List.getElem?_eq_getElem hiv); have e2 : (vs.toArray ++ Array.replicate (fd.fn.ntmps - vs.length) undef).getD i Go.undef = vs[i] := by
      simp [Array.getD_eq_getD_getElem?, Array.getElem?_append, hiv]
     simp only [e2]; exact this
   · rw [List.getElem?_replicate] at hi
     split at hi
     · simp only [Option.some.injEq] at hi; exact .inl hi.symm
     · simp at hi
 · rcases kc hy with hm | ⟨hm, _⟩
   · refine RoRow.rel ?_ rfl; have := g1 _ hm; simp only at this
     cases y with
     | row m u xs =>
      cases m with
      | ro =>
       obtain ⟨k1, k2, k3⟩ := this; exact ⟨k1, k2.frame id (Nat.le_refl _) (fun b _ hb => ⟨⟨hb.1, .inl trivial⟩, rfl⟩), k3.frame id (Nat.le_refl _) (fun _ _ b _ hb => ⟨⟨hb.1, .inl trivial⟩, rfl⟩) (fun _ _ _ => rfl)⟩
      | own => exact this.elim
      | sh => exact this.elim
     | box _ _ => exact this.elim
     | dead => exact this.elim
   · simp [Objs.none] at hm
 · simp only [fixOf, FD.fixed, FD.kept, hfix 0, List.nil_append, List.mem_map, List.mem_filter, decide_eq_true_eq] at hq; obtain ⟨i, ⟨_, hi⟩, rfl⟩ := hq; have hi' : i < vs.length := by omega
   exact ⟨by simp; omega, by simp [Array.getD_eq_getD_getElem?, Array.getElem?_append, hi']⟩
theorem zPq {fd : FD} (q4 : ((initPs [] fd.sig.params 0 0).2.map (·.1)).Nodup) (q5 : fd.sig.params.length ≤ fd.fn.ntmps) (hres : fd.sig.res = [(.own, false, .int .i64)]) {Ts : List TypeId} {tvs : List TV} {vs : List Value}
  (h : ArgsRel P w fd.sig.params Ts tvs vs) {c : Int} (hspec : FnSpec P E fd tvs [⟨.int .i64, c⟩]) : Calls P fd.id vs.toArray w fun e w' => e = .returned (.int .i64 c) ∧ ∃ q os, w' = Sort.grow (w.drewN q) os := by
 obtain ⟨ρ, hi⟩ := zN5 q4 q5 h; obtain ⟨hlen, hfix⟩ := h.len; refine Calls.mono (hspec w Non All ρ noCol vs hlen.symm h.kept hi) ?_; rintro e w' ⟨s', ρ', col', a', ws, rfl, hi', hfin, hws, _⟩; refine ⟨?_, zQb hi'.same hi'.mono (fun k hk => hi'.low k hk (fun h => h))⟩; obtain ⟨ws2, xs, us, ro, ys, vs2, _, r1, r2, r3, r4, r5, r6⟩ := jL hfin; rw [hws] at r1; simp only [Option.some.injEq] at r1; subst r1; rw [hres] at r2
 match ws, r2 with
 | [u], r2 =>
  simp only [packRes] at r2
  split at r2
  · rename_i x1 u1 v1 x2 u2 v2 h1 h2; simp only [Option.some.injEq, Prod.mk.injEq] at h2 r2; obtain ⟨rfl, rfl, rfl⟩ := h2; obtain ⟨rfl, _, _⟩ := r2; simp only [packRes1] at h1
    split at h1
    · rename_i x us' hp
      split at h1
      · simp only [Option.some.injEq, Prod.mk.injEq] at h1; obtain ⟨rfl, _, _⟩ := h1
        cases u with
        | c cc =>
         cases cc with
         | int k b =>
          simp only [packW] at hp
          split at hp
          · rename_i hk; subst hk; simp only [Option.some.injEq, Prod.mk.injEq] at hp; obtain ⟨rfl, _⟩ := hp; simp only [List.append_nil, List.cons_append, List.nil_append, List.cons.injEq, TV.mk.injEq, heq_eq_eq, true_and] at r6; rw [r6.1]
            rfl
          · simp at hp
         | _ => simp [packW] at hp
        | _ => simp [packW] at hp
      · simp at h1
    · simp at h1
  · simp at r2
 | [], r2 => simp [packRes] at r2
 | _ :: _ :: _, r2 =>
  simp only [packRes] at r2
  split at r2
  · rename_i h2; simp at h2
  · simp at r2
end
end Go.Ev
namespace Go.Ev
open Go.Shelf
section
variable {α : Type} [Inhabited α] (enc : α → List Value) (k : Nat) (w : World) (blk off n : Nat) (d : Array α) (os : Array Go.Obj)
theorem zCU : w.heap.size ≤ (Go.Proofs.sortWorldK enc k w blk off n d os).heap.size := Go.Proofs.size_sortWorldK_c enc k w blk off n d os
theorem zEP {b : Nat} (hb : b < w.heap.size) (hne : b ≠ blk) : (Go.Proofs.sortWorldK enc k w blk off n d os).heap[b]? = w.heap[b]? := by
 unfold Go.Proofs.sortWorldK Sort.grow Sort.putRowK Sort.putRow Sort.mapBlock Sort.ahead; simp only; rw [Array.getElem?_append_left (by simpa using hb), Array.getElem?_modify, if_neg (Ne.symm hne)]
theorem zLl {cs : Array Value} {T : TypeId} {fr : Nat × Nat} (h : w.heap[blk]? = some (.cells cs T fr)) :
  ∃ cs', (Go.Proofs.sortWorldK enc k w blk off n d os).heap[blk]? = some (.cells cs' T fr) ∧ cs'.size = cs.size := by
 have hb : blk < w.heap.size := by
  rw [Array.getElem?_eq_some_iff] at h; exact h.1
 refine ⟨Sort.putCells id off (Sort.flatK enc k d) cs, ?_, by simp [Sort.putCells]⟩; unfold Go.Proofs.sortWorldK Sort.grow Sort.putRowK Sort.putRow Sort.mapBlock Sort.ahead; simp only; rw [Array.getElem?_append_left (by simpa using hb), Array.getElem?_modify, if_pos rfl, h]
 rfl
theorem zNo : Like w (Go.Proofs.sortWorldK enc k w blk off n d os) := ⟨rfl, rfl, rfl, Nat.le_add_right _ _⟩
end
theorem zSp {n : Nat} {lt : Fin n → Fin n → Bool} (h : swoB lt = true) : Sort.SWO lt := by
 simp only [swoB, Bool.and_eq_true, decide_eq_true_eq] at h; exact ⟨h.1.1, h.1.2, h.2⟩
theorem zQT {w : World} {own : Bool} {ok : Nat → Nat → Prop} {t : Ty} {xs : List t.den} {addr : Option Addr} (h : Elems w own ok t xs addr) :
  ∃ enc : Fin xs.length → List Value, ∀ i : Fin xs.length, TRep w own (ok i.val) t xs[i.val] (enc i) ∧ ∀ j v, (enc i)[j]? = some v → cellAt w addr (i.val * t.cells + j) = some v :=
 ⟨fun i => (h i.val _ (List.getElem?_eq_getElem i.isLt)).choose, fun i => (h i.val _ (List.getElem?_eq_getElem i.isLt)).choose_spec⟩
open Classical in
noncomputable def newPlace {n : Nat} (out : Array (Fin n)) (c : Nat) : Nat := if h : ∃ i, ∃ q : Fin n, out.toList[i]? = some q ∧ q.val = c then h.choose else c
theorem zLt {n : Nat} {out : Array (Fin n)} (hn : out.toList.Nodup) {i : Nat} {q : Fin n} (h : out.toList[i]? = some q) : newPlace out q.val = i := by
 unfold newPlace; have hex : ∃ i, ∃ q' : Fin n, out.toList[i]? = some q' ∧ q'.val = q.val := ⟨i, q, h, rfl⟩; rw [dif_pos hex]; obtain ⟨q', h1, h2⟩ := hex.choose_spec; have e : q' = q := Fin.ext h2; subst e; have hl := (List.getElem?_eq_some_iff.1 h).1; exact ((List.getElem?_inj hl hn).1 (h.trans h1.symm)).symm
noncomputable def sortCol {n : Nat} (col : Col) (out : Array (Fin n)) : Col := fun b => match col b with
 | some (o, c + 1) => some (o, newPlace out c + 1)
 | x => x
theorem zGZ {n : Nat} {col : Col} {out : Array (Fin n)} {b o : Nat} (h : col b = some (o, 0)) : sortCol col out b = some (o, 0) := by simp [sortCol, h]
theorem zDW {n : Nat} {col : Col} {out : Array (Fin n)} {b o c : Nat} (h : col b = some (o, c + 1)) : sortCol col out b = some (o, newPlace out c + 1) := by simp [sortCol, h]
theorem zGa {n : Nat} {col : Col} {out : Array (Fin n)} {b : Nat} (h : col b = none) : sortCol col out b = none := by simp [sortCol, h]
theorem zNq {n : Nat} {col : Col} {out : Array (Fin n)} {b : Nat} {Y : Nat → Prop} (h : RO col Y b) : RO (sortCol col out) Y b := by
 refine ⟨?_, h.2⟩
 rcases h.1 with e | ⟨o, i, e⟩
 · exact .inl (zGa e)
 · exact .inr ⟨o, _, zDW e⟩
theorem zKc {n : Nat} {col : Col} {out : Array (Fin n)} {b o c : Nat} (h : sortCol col out b = some (o, c)) : ∃ c', col b = some (o, c') := by
 cases hb : col b with
 | none => rw [zGa hb] at h; simp at h
 | some y =>
  obtain ⟨o', c'⟩ := y
  cases c' with
  | zero =>
   rw [zGZ hb] at h; simp only [Option.some.injEq, Prod.mk.injEq] at h; exact ⟨0, by rw [h.1]⟩
  | succ c' =>
   rw [zDW hb] at h; simp only [Option.some.injEq, Prod.mk.injEq] at h; exact ⟨c' + 1, by rw [h.1]⟩
theorem zNt {n : Nat} {out : Array (Fin n)} (hs : out.size = n) (hp : (out.extract 0 n).toList.Perm ((Array.ofFn fun i : Fin n => i).extract 0 n).toList) : out.toList.Nodup := by
 have e1 : out.extract 0 n = out := by
  have : out.extract 0 out.size = out := by simp
  rw [hs] at this; exact this
 have e2 : (Array.ofFn fun i : Fin n => i).extract 0 n = (Array.ofFn fun i : Fin n => i) := by
  apply Array.ext
  · simp
  · intro i h1 h2; simp
 rw [e1, e2] at hp; refine hp.nodup_iff.2 ?_; refine List.pairwise_iff_getElem.2 fun i j hi hj hij he => ?_; simp at he; omega
section
variable {P : Program} {E : Env}
theorem zOq {fd : FD} {f : FuncId} {t : Ty} {m : Mode} (hm : (m = .own ∧ fd.sig.params = [.mut (.slice t), .fn f []]) ∨ (m = .sh ∧ fd.sig.params = [.muts (.slice t), .fn f []])) (tvs : List TV) :
  fd.init tvs = ⟨[.w (.c (.sl 1000)), .fn f []] ++ List.replicate (fd.fn.ntmps - 2) .undef, Objs.none.upd 1000 (.row m t (getTV (.slice t) tvs 0))⟩ := by
 rcases hm with ⟨rfl, hp⟩ | ⟨rfl, hp⟩ <;> simp [FD.init, hp, initPs, PK.init, unpackW, unpackCaps, Objs.upds, idOf]
theorem zHZ {fd : FD} {f : FuncId} {t : Ty} {m : Mode} (hm : (m = .own ∧ fd.sig.params = [.mut (.slice t), .fn f []]) ∨ (m = .sh ∧ fd.sig.params = [.muts (.slice t), .fn f []])) (hr : fd.sig.res = []) (hres : fd.fn.results = #[])
  (l : List V) (ys : List t.den) : fd.finish E ⟨[.w (.c (.sl 1000)), .fn f []] ++ l, Objs.none.upd 1000 (.row m t ys)⟩ = some [⟨.slice t, ys⟩] ∧ resWs E ⟨[.w (.c (.sl 1000)), .fn f []] ++ l, Objs.none.upd 1000 (.row m t ys)⟩ fd.fn.results.toList = some [] := by
 rcases hm with ⟨rfl, hp⟩ | ⟨rfl, hp⟩ <;>
  simp [FD.finish, hr, hres, hp, resWs, packRes, backPs, PK.back, packW, rowAs, Objs.upd, apart]
theorem zRq {ρr : Ren} (L : Go.Proofs.SlLaysF0.n6 P ρr) {fd fd2 : FD} {cmp : Nat} {t : Ty} {T : TypeId} (hT : TyOK P t T) (hsc : t.scalar = false)
  (aE : ∀ w, (isAgg (ρr.t 24)).run P w = .ok true w) (zE : ∀ w, (Go.sizeOf (ρr.t 24)).run P w = .ok t.cells w) (hid : ρr.f 6 = fd.id)
  (hm : fd.sig.params = [.mut (.slice t), .fn fd2.id []] ∨ fd.sig.params = [.muts (.slice t), .fn fd2.id []]) (hr : fd.sig.res = []) (hres : fd.fn.results = #[])
  (h2 : E.fd cmp = some fd2) (ok2 : FdOk P fd2) (hp2 : fd2.sig.params = [.ro t, .ro t]) (hr2 : fd2.sig.res = [(.own, false, .int .i64)]) : ExtOk P E fd (.sort cmp t) := by
 obtain ⟨m, hm1, hm2⟩ : ∃ m : Mode, (m = .own ∨ m = .sh) ∧ ((m = .own ∧ fd.sig.params = [.mut (.slice t), .fn fd2.id []]) ∨ (m = .sh ∧ fd.sig.params = [.muts (.slice t), .fn fd2.id []])) := by
  rcases hm with h | h
  · exact ⟨.own, .inl rfl, .inl ⟨rfl, h⟩⟩
  · exact ⟨.sh, .inr rfl, .inr ⟨rfl, h⟩⟩
 have hmine : m.mine = true := by rcases hm1 with rfl | rfl <;> rfl
 obtain ⟨o1, o2, o3, o4, o5⟩ := ok2; have eg : ∀ args w, (callFunc fd2.id args).run P w = .ok (.enter fd2.id args) w := by
  intro args w; have q2' : ¬ fd2.fn.name = "runtime.NumGoroutine" := by simpa using o2
  have q3' : ¬ fd2.fn.body = none := fun e => by rw [e] at o3; simp at o3
  simp [callFunc, o1, q2', q3']
 intro call tvs outs hcall hx w0 X Y0 ρ col args hal _ hin; rw [zOq hm2] at hin; simp only [extE] at hx; generalize hxs : getTV (.slice t) tvs 0 = xs at hx hin; have hal2 : args.length = 2 := by rw [hal]; rcases hm2 with ⟨_, h⟩ | ⟨_, h⟩ <;> rw [h] <;> rfl
 obtain ⟨a0, a1, rfl⟩ : ∃ a0 a1, args = [a0, a1] := by
  match args, hal2 with
  | [a0, a1], _ => exact ⟨a0, a1, rfl⟩
 have e0 : a0 = .slice (ρ 1000).addr (ρ 1000).len (ρ 1000).cap := by
  have := hin.tmps 0 (.w (.c (.sl 1000))) (by simp)
  rcases this with h | ⟨_, h⟩
  · simp at h
  · simpa [vval, wval, cval, Array.getD_eq_getD_getElem?, Array.getElem?_append] using h
 have e1 : a1 = .func (.func fd2.id) #[] #[] := by
  have := hin.tmps 1 (.fn fd2.id []) (by simp)
  rcases this with h | ⟨_, h⟩
  · simp at h
  · simpa [vval, Array.getD_eq_getD_getElem?, Array.getElem?_append] using h
 subst e0 e1; obtain ⟨k1, k2, k3⟩ := hin.objs 1000 (.row m t xs) (by simp [Objs.upd]); rw [← hid]
 cases xs with
 | nil =>
  simp only [sortE, Option.some.injEq] at hx; subst hx; have hl : (ρ 1000).len = 0 := k1; have hc : Calls P (ρr.f 6) #[.slice (ρ 1000).addr (ρ 1000).len (ρ 1000).cap, .func (.func fd2.id) #[] #[]] w0 fun e w' => e = .returned (.tuple #[]) ∧ w' = w0 := by
   rw [hl]; exact Go.Proofs.AnyF.slices_SortFunc_none L (ρ 1000).addr (ρ 1000).cap _ w0
  refine Calls.mono hc ?_; rintro e w' ⟨rfl, rfl⟩; obtain ⟨f1, f2⟩ := zHZ (E := E) hm2 hr hres (List.replicate (fd.fn.ntmps - 2) .undef) []; exact ⟨_, ρ, col, _, [], rfl, hin, f1, f2, fun x hx => by simp at hx⟩
 | cons x r =>
  simp only [sortE] at hx
  split at hx
  · rename_i hlim; obtain ⟨cs, c1, c2, c3⟩ := zJE _ _ _ hx; simp only [List.nil_append] at c2
    split at c2
    · rename_i hswo; simp only [Option.some.injEq] at c2; have hlen : (ρ 1000).len = r.length + 1 := k1; obtain ⟨blk, off, haddr⟩ := zJZ k2 (by simp); obtain ⟨_, hblk, hcol, hown⟩ := k2.2.2 _ haddr (.inl (by simp)); simp only at hblk hcol hown; obtain ⟨ccs, cT, hcells, hroom⟩ := hown hmine; have hcol' : col blk = some (1000, 0) := by rcases hm1 with rfl | rfl <;> exact hcol
      have hX : X blk := by
       rcases (hin.cold _ _ _ hcol').1 with h | h
       · omega
       · exact h
      obtain ⟨enc, henc⟩ := zQT k3; have hkl : ∀ i, (enc i).length = t.cells := fun i => (henc i).1.len; have hone : ∀ i, ∀ v ∈ enc i, v.oneCell' = true := fun i => (henc i).1.oneCell; have hO : Sort.SWO (Go.Proofs.ltOf (cfC (r.length + 1) cs)) := zSp hswo; have hro : ∀ i b, okE col (fun b => Y0 b ∨ w0.heap.size ≤ b ∨ X b) m 1000 i b → b ≠ blk := by
       rintro i b h rfl
       rcases hm1 with rfl | rfl
       · simp only [okE] at h; rw [hcol'] at h; simp at h
       · obtain ⟨h, _⟩ := h; rcases h with h | ⟨o, i, h⟩ <;> rw [hcol'] at h <;> simp at h
      have hcmp : ∀ sz, Go.Proofs.CmpLays P fd2.id #[] (α := Fin (r.length + 1)) enc t.cells (cfC (r.length + 1) cs) blk off sz w0 := by
       intro sz m' os dk _ i j; have hi := i.isLt; have hj := j.isLt; obtain ⟨o, g1, g2⟩ := c3 (i.val * (r.length + 1) + j.val) _ (zLr (x :: r) (i := i.val) (j := j.val) hi hj); have g3 := zL9 g2; subst g3; have hspec := hcall _ _ _ _ h2 g1; have fr : ∀ i : Fin (r.length + 1), TRep (Go.Proofs.sortWorldK enc t.cells w0 blk off m' dk os) false (fun _ => True) t (x :: r)[i.val] (enc i) := fun i =>
        (henc i).1.frame (by simp) (zCU ..) (fun b hb hr => ⟨trivial, zEP _ _ _ _ _ _ _ _ hb (hro _ b hr)⟩)
       have := zPq (P := P) (E := E) (w := Go.Proofs.sortWorldK enc t.cells w0 blk off m' dk os) o4 o5 hr2 (Ts := [T, T]) (vs := [.agg (enc i).toArray, .agg (enc j).toArray])
        (by rw [hp2]; exact .cons ⟨hT, enc i, fr i, fun h => by rw [hsc] at h; simp at h, fun _ => rfl⟩ (.cons ⟨hT, enc j, fr j, fun h => by rw [hsc] at h; simp at h, fun _ => rfl⟩ .nil)) hspec
       exact this
      have hds : (Array.ofFn fun i : Fin (r.length + 1) => i).size = r.length + 1 := by simp
      have hget : ∀ j, j < r.length + 1 → ((Array.ofFn fun i : Fin (r.length + 1) => i)[j]!).val = j := by
       intro j hj; rw [getElem!_pos _ j (by simpa using hj)]; simp
      have hH : Sort.HoldsK enc t.cells w0 blk off (Array.ofFn fun i : Fin (r.length + 1) => i) := by
       intro j hj; rw [Sort.size_flatK, hds] at hj; rw [Sort.get_flatK _ _ _ _ (by rw [hds]; exact hj)]
       have hk0 : 0 < t.cells := by rcases Nat.eq_zero_or_pos t.cells with h | h; · rw [h] at hj; simp at hj
                                    · exact h
       have hq : j / t.cells < r.length + 1 := (Nat.div_lt_iff_lt_mul hk0).2 hj; have hmod : j % t.cells < t.cells := Nat.mod_lt _ hk0; have hg := hget _ hq; generalize (Array.ofFn fun i : Fin (r.length + 1) => i)[j / t.cells]! = q at hg ⊢; have hv : (enc q)[j % t.cells]? = some (enc q)[j % t.cells]! := by
        rw [getElem!_pos _ _ (by rw [hkl]; exact hmod)]; exact List.getElem?_eq_getElem _
       have := (henc q).2 _ _ hv; rw [hg, haddr] at this; simp only [cellAt, Option.bind_some] at this; rw [Nat.div_add_mod' j t.cells] at this; refine ⟨this, ?_⟩; simp only [World.frozen?, hcells]; simp
      have hsz : (Array.ofFn fun i : Fin (r.length + 1) => i).size < 4611686018427387904 := by
       rw [hds]; simp only [lim] at hlim; omega
      have hc := Go.Proofs.AnyQ.slices_SortFunc_eq (α := Fin (r.length + 1)) L t.cells aE zE enc hkl hone (cfC (r.length + 1) cs) hO fd2.id #[] blk off (ρ 1000).cap _ w0 eg (hcmp _) hH hblk hsz; obtain ⟨hperm, _, hpm⟩ := (Go.Sort.pdq_sorts (Go.Proofs.ltOf (cfC (r.length + 1) cs)) hO (Array.ofFn fun i : Fin (r.length + 1) => i) 0 (r.length + 1) (Lib.bitLen (r.length + 1)) true true (Nat.zero_le _) (by rw [hds]; exact Nat.le_refl _) (Or.inl rfl)).1; rw [hds] at hc hperm; have hc2 := Calls.mono (P := P) (f := ρr.f 6) (args := #[.slice (ρ 1000).addr (ρ 1000).len (ρ 1000).cap, .func (.func fd2.id) #[] #[]]) (w := w0) (by rw [haddr, hlen]; exact hc) (fun e w' h => h); obtain ⟨act, hin⟩ := Exists.intro (p := fun act => Inv w0 X Y0 (fixOf fd [.slice (ρ 1000).addr (ρ 1000).len (ρ 1000).cap, .func (.func fd2.id) #[] #[]]) _ ρ col act w0) _ hin; refine Calls.mono hc2 ?_; rintro e w' ⟨rfl, nn, os, rfl⟩; have hsb : Sort.pdq (Go.Proofs.ltOf (cfC (r.length + 1) cs)) (Array.ofFn fun i : Fin (r.length + 1) => i) 0 (r.length + 1) (Lib.bitLen (r.length + 1)) true true = sortBy (ltC (r.length + 1) cs) := rfl; rw [hsb] at hperm hpm; rw [hsb]; generalize sortBy (ltC (r.length + 1) cs) = out at hperm hpm c2; have hnd := zNt hperm hpm; obtain ⟨f1, f2⟩ := zHZ (E := E) hm2 hr hres (List.replicate (fd.fn.ntmps - 2) .undef) (out.toList.map fun i => (x :: r).getD i.val x); refine ⟨_, ρ, sortCol col out, act, [], rfl, ?_, by rw [← c2]; exact f1, f2, fun x hx => by simp at hx⟩; have hst : Stays (Objs.none.upd 1000 (.row m t (x :: r))) (Objs.none.upd 1000 (.row m t (out.toList.map fun i => (x :: r).getD i.val x))) ρ ρ := by
       intro o ho; refine ⟨?_, rfl⟩; simp only [Objs.upd] at ho ⊢
       split
       · simp
       · rename_i hne; rw [if_neg hne] at ho; exact ho
      have hHW := Go.Proofs.holdsK_sortWorldK_c enc t.cells w0 blk off _ out nn os hH hblk (by rw [hds]; exact hperm)
      refine ⟨hin.defers, hin.size, fun i v hv => hst.vrel (hin.tmps i v hv), fun o y hy => ?_, fun b o c hb => ?_, fun b hb hx => ?_, Nat.le_trans hin.mono (zCU ..), hin.fixed, hin.same.trans (zNo ..)⟩
      · simp only [Objs.upd] at hy
        split at hy
        · rename_i ho; subst ho; simp only [Option.some.injEq] at hy; subst hy; have hyl : (out.toList.map fun i => (x :: r).getD i.val x).length = r.length + 1 := by simp [hperm]
          refine ⟨by rw [hyl]; exact hlen, ?_, ?_⟩
          · rw [hyl]; refine ⟨k2.1, fun h => (by rw [haddr] at h; simp at h), fun a ha _ => ?_⟩; rw [haddr] at ha; simp only [Option.some.injEq] at ha; subst ha; refine ⟨rfl, Nat.lt_of_lt_of_le hblk (zCU ..), by rcases hm1 with rfl | rfl <;> exact zGZ hcol', fun _ => ?_⟩; obtain ⟨cs', g1, g2⟩ := zLl enc t.cells w0 blk off nn out os hcells; exact ⟨cs', cT, g1, by rw [g2]; exact hroom⟩
          · intro i y hy; rw [List.getElem?_map, Option.map_eq_some_iff] at hy; obtain ⟨q, hq, rfl⟩ := hy; have hio : i < out.size := by
             have := (List.getElem?_eq_some_iff.1 hq).1; simpa using this
            have hq' : out[i]! = q := by
             rw [getElem!_pos out i hio]; have := (List.getElem?_eq_some_iff.1 hq).2; simpa using this
            have hy : (x :: r).getD q.val x = (x :: r)[q.val] := by
             have hql : q.val < (x :: r).length := q.isLt; rw [List.getD_eq_getElem?_getD, List.getElem?_eq_getElem hql]
             rfl
            rw [hy]
            refine ⟨enc q, ?_, fun j v hv => ?_⟩
            · refine (henc q).1.frame id (zCU ..) (fun b hb hr => ⟨?_, zEP _ _ _ _ _ _ _ _ hb (hro _ b hr)⟩)
              rcases hm1 with rfl | rfl
              · have := zDW (out := out) hr; rw [zLt hnd hq] at this; exact this
              · have hr' : RO col (fun b => Y0 b ∨ w0.heap.size ≤ b ∨ X b) b := hr; exact zNq hr'
            · have hjk : j < t.cells := by rw [← hkl q]; exact (List.getElem?_eq_some_iff.1 hv).1
              have := (hHW.cell hio hjk).1; rw [haddr]; simp only [cellAt, Option.bind_some]; rw [← Nat.add_assoc, this, hq', getElem!_pos _ _ (by rw [hkl]; exact hjk), ← (List.getElem?_eq_some_iff.1 hv).2]
        · simp [Objs.none] at hy
      · obtain ⟨c', hb'⟩ := zKc hb; obtain ⟨g1, g2, g3⟩ := hin.cold b o c' hb'; exact ⟨g1, Nat.lt_of_lt_of_le g2 (zCU ..), (hst o g3).1⟩
      · rw [zEP _ _ _ _ _ _ _ _ hb (fun e => hx (e ▸ hX))]
    · simp at c2
  · simp at hx
end
end Go.Ev
namespace Go.Ev
section
variable {P : Program} {E : Env}
theorem zL {ops : Array Oper} {Q : Exit → Act → World → Prop} {i : Nat} {rest : List Nat} {o : Oper} {a : Act} {w w' : World} {d : Nat} {v : Value} (ho : ops[i]? = some o) (hg : o.guard = none) (hd : o.dst = some d)
  (hr : (execOp a.eval o).run P w = .ok (.value v) w') (h : wpOps P ops Q rest (a.put (some d) v) w') : wpOps P ops Q (i :: rest) a w := zg ho hg (by unfold Oper.wp; rw [hr, Oper.upon_value, hd]; exact h)
theorem zSk {ops : Array Oper} {Q : Exit → Act → World → Prop} {i : Nat} {rest : List Nat} {o : Oper} {a : Act} {w w' : World} (ho : ops[i]? = some o) (hg : o.guard = none) (hd : o.dst = none)
  (hr : (execOp a.eval o).run P w = .ok .skip w') (h : wpOps P ops Q rest a w') : wpOps P ops Q (i :: rest) a w := zg ho hg (by unfold Oper.wp; rw [hr, Oper.upon_skip, hd]; exact h)
theorem zGM {ops : Array Oper} {Q : Exit → Act → World → Prop} {i : Nat} {rest : List Nat} {o : Oper} {a : Act} {w : World} {f : FuncId} {args : Array Value} {d : Nat} (ho : ops[i]? = some o) (hg : o.guard = none) (hd : o.dst = some d)
  (hr : (execOp a.eval o).run P w = .ok (.enter f args) w) (h : Calls P f args w fun e w' => ∃ v, e = .returned v ∧ wpOps P ops Q rest (a.put (some d) v) w') : wpOps P ops Q (i :: rest) a w := by
 refine zg ho hg ?_; unfold Oper.wp; rw [hr, Oper.upon_enter, hd]; refine h.mono ?_; rintro e w' ⟨v, rfl, h⟩; exact h
theorem zDR {ops : Array Oper} {K : Act → World → Prop} {Q : Exit → Act → World → Prop} {a : Act} {w : World} (h : K a w) : wpOps P ops (Exit.then K Q) [] a w := h
theorem zMq {ops : Array Oper} {Q : Exit → Act → World → Prop} {a : Act} {w : World} (h : Q .normal a w) : wpOps P ops Q [] a w := h
theorem zC {a : Act} {d e : Nat} (hd : d < a.tmps.size) (v : Value) : (a.put (some d) v).eval (.tmp e) = if d = e then v else a.eval (.tmp e) := by
 show (a.tmps.setIfInBounds d v).getD e undef = _; rw [Array.getD_eq_getD_getElem?, Array.getElem?_setIfInBounds]
 by_cases h : d = e
 · subst h; rw [if_pos rfl, if_pos rfl, if_pos hd]
   rfl
 · rw [if_neg h, if_neg h, ← Array.getD_eq_getD_getElem?]
   rfl
theorem zA (a : Act) (d : Nat) (v : Value) : (a.put (some d) v).tmps.size = a.tmps.size := by
 show (a.tmps.setIfInBounds d v).size = _; simp
theorem zAP (a : Act) (d : Nat) (v : Value) : (a.put (some d) v).defers = a.defers := rfl
def natOf : Value → Nat
 | .int _ x => x.toNat
 | _ => 0
theorem zQ2 {T : Option Ty} {i : Nat} (h : i ≤ 549755813888) : binW .add T (.c (.int .i64 (i : Int))) (.c (.int .i64 1)) = some (true, .c (.int .i64 ((i + 1 : Nat) : Int))) := by
 have : IntKind.wrap .i64 ((i : Int) + 1) = ((i + 1 : Nat) : Int) := by
  rw [Int.natCast_add]; exact zB (by omega) (by omega)
 simp only [binW, intOp, if_true, this]
variable {a : Act} {w : World} {o : Oper}
theorem r_mv {x : Operand} {v : Value} (hop : o.op = .move x ∨ o.op = .assign x) (hx : a.eval x = v) : (execOp a.eval o).run P w = .ok (.value v) w := by
 rcases hop with h | h <;> simp [execOp, h, hx]
theorem zHd {op : BinOp} {T T' : TypeId} {x y : Operand} {k : IntKind} {m m' : Int} {u : C} (hE : EnvTy P E) (hop : o.op = .binOp op T x y T') (hx : a.eval x = .int k m) (hy : a.eval y = .int k m')
  (hb : binW op (E.ty T) (.c (.int k m)) (.c (.int k m')) = some (true, .c u)) : (execOp a.eval o).run P w = .ok (.value (cval (fun _ => ⟨none, 0, 0⟩) u)) w := by
 have := (zJK (P := P) (ρ := fun _ => ⟨none, 0, 0⟩) (ob := Objs.none) hE hb rfl trivial trivial x y w).2; simp only [wval, cval] at this; simp only [execOp, hop, hx, hy]; exact zT this
theorem zRz {T e : TypeId} {x : Operand} {addr : Option Addr} {n cap : Nat} (hT : P.underlying T = some (.slice e)) (hop : o.op = .call { callee := .builtin .len, args := #[x], argTypes := #[T] }) (hx : a.eval x = .slice addr n cap) :
  (execOp a.eval o).run P w = .ok (.value (.int .i64 n)) w := by
 simp [execOp, hop, resolve, hx, invoke, builtin, zE4 hT]
theorem zTf {T e : TypeId} {i : TypeInfo} (hT : P.underlying T = some (.slice e)) (hi : P.info? e = some i) {x y : Operand} {b off len cap n : Nat} {k : IntKind} (hop : o.op = .indexAddr T x y) (hx : a.eval x = .slice (some ⟨b, off, none⟩) len cap)
  (hy : a.eval y = .int k (n : Int)) (hn : n < len) : (execOp a.eval o).run P w = .ok (.value (.pointer (some ⟨b, off + n * i.size, none⟩))) w := by
 have := zBw (P := P) hT hi b off len cap k (n : Int) (by omega) (by omega) w; simp only [Int.toNat_natCast] at this; simp [execOp, hop, hx, hy, this]
theorem r_fn {g : Nat} {x : Operand} {args : Array Operand} {tys : Array TypeId} (hop : o.op = .call { callee := .value x, args := args, argTypes := tys }) (hx : a.eval x = .func (.func g) #[] #[]) (eg : ∀ args w, (callFunc g args).run P w = .ok (.enter g args) w) :
  (execOp a.eval o).run P w = .ok (.enter g (args.map a.eval)) w := by
 simp [execOp, hop, resolve, hx, Deferred.ofValue, invoke, eg]
def KeepA (w w' : World) : Prop := w.heap.size ≤ w'.heap.size ∧ Like w w' ∧ ∀ b, b < w.heap.size → w'.heap[b]? = w.heap[b]?
def KeepB (blk : Nat) (w w' : World) : Prop := w.heap.size ≤ w'.heap.size ∧ Like w w' ∧ ∀ b, b < w.heap.size → b ≠ blk → w'.heap[b]? = w.heap[b]?
theorem KeepA.trans {w w' w'' : World} (h : KeepA w w') (g : KeepA w' w'') : KeepA w w'' :=
 ⟨Nat.le_trans h.1 g.1, h.2.1.trans g.2.1, fun b hb => (g.2.2 b (Nat.lt_of_lt_of_le hb h.1)).trans (h.2.2 b hb)⟩
theorem KeepA.b {w w' : World} (h : KeepA w w') (blk : Nat) : KeepB blk w w' := ⟨h.1, h.2.1, fun b hb _ => h.2.2 b hb⟩
theorem KeepB.trans {blk : Nat} {w w' w'' : World} (h : KeepB blk w w') (g : KeepB blk w' w'') : KeepB blk w w'' :=
 ⟨Nat.le_trans h.1 g.1, h.2.1.trans g.2.1, fun b hb hn => (g.2.2 b (Nat.lt_of_lt_of_le hb h.1) hn).trans (h.2.2 b hb hn)⟩
theorem zN0 (w : World) (x : Go.Obj) : KeepA w (w.alloc x) := by
 refine ⟨by rw [zf]; omega, ⟨rfl, rfl, rfl, Nat.le_refl _⟩, fun b hb => heap_alloc_old w x hb⟩
def Row (w : World) (blk n : Nat) : Prop := ∃ cs T, w.heap[blk]? = some (.cells cs T (0, 0)) ∧ cs.size = n
theorem zOv {blk off m : Nat} {vs : List Value} {W : World} (hr : Row W blk m) (hfit : off + vs.length ≤ m) (h1 : ∀ v ∈ vs, v.oneCell' = true) :
  ∃ W', (storeCells ⟨blk, off, none⟩ vs).run P W = .ok () W' ∧ KeepB blk W W' ∧ Row W' blk m ∧ (∀ j v, vs[j]? = some v → W'.cell? ⟨blk, off + j, none⟩ = some v) ∧
   ∀ q, q < off ∨ off + vs.length ≤ q → W'.cell? ⟨blk, q, none⟩ = W.cell? ⟨blk, q, none⟩ := by
 obtain ⟨cur, T, hb, hm⟩ := hr; have hst := run_storeCells_at P blk off T vs 0 cur W hb (by simpa [hm] using hfit) h1; simp only [Nat.add_zero] at hst; have hsr := setRow_heap W blk cur (cur.toList.take off ++ vs ++ cur.toList.drop (off + vs.length)).toArray T _ hb; have hlt : blk < W.heap.size := (Array.getElem?_eq_some_iff.1 hb).1
 refine ⟨_, hst, ⟨?_, by first | exact ⟨rfl, rfl, rfl, Nat.le_refl _⟩ | exact ⟨rfl, rfl, rfl, Nat.le_add_right _ _⟩, fun b _ hn => setRow_other W blk b _ hn⟩, ⟨_, T, hsr, ?_⟩, fun j v hv => ?_, fun q hq => ?_⟩
 · unfold World.setRow; simp
 · simp only [List.size_toArray, List.length_append, List.length_take, List.length_drop, Array.length_toList]; omega
 · have hj := (List.getElem?_eq_some_iff.1 hv).1; simp only [World.cell?, hsr, Option.isSome_none, Bool.false_eq_true, if_false, List.getElem?_toArray]; rw [List.getElem?_append_left (by simp; omega), List.getElem?_append_right (by simp; omega)]; have : off + j - (cur.toList.take off).length = j := by simp; omega
   rw [this]; simpa using hv
 · simp only [World.cell?, hsr, hb, Option.isSome_none, Bool.false_eq_true, if_false, List.getElem?_toArray]
   rcases hq with hq | hq
   · rw [List.getElem?_append_left (by simp; omega), List.getElem?_append_left (by simp; omega), List.getElem?_take, if_pos hq]; simp
   · by_cases hq2 : q < m
     · rw [List.getElem?_append_right (by simp; omega), List.getElem?_drop]; have : off + vs.length + (q - (cur.toList.take off ++ vs).length) = q := by simp; omega
       rw [this]; simp
     · rw [List.getElem?_eq_none (by simp; omega), Array.getElem?_eq_none (by omega)]
end
def kept (p : Nat → Bool) (j : Nat) : List Nat := (List.range j).filter fun i => !p i
section
variable {P : Program} {E : Env} {w : World}
end
end Go.Ev
