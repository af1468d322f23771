/- Sorts and deletions by their contract. -/
import Derived.Test.YtmdkgikjnaijeaaGreatV4
import Derived.Shelf.SlSortCmp.NoneTotal
set_option linter.unusedSimpArgs false
set_option linter.unusedVariables false
namespace Go.Ev
open Go.Shelf
theorem zPS {α β : Type} {f : α → List β} {n : Nat} (hf : ∀ a, (f a).length = n) : ∀ (xs : List α) (i j : Nat), j < n → (xs.flatMap f)[i * n + j]? = (xs[i]?).bind fun a => (f a)[j]?
 | [], i, j, _ => by simp
 | a :: xs, 0, j, hj => by
  rw [List.flatMap_cons, List.getElem?_append_left (by rw [hf]; omega)]; simp
 | a :: xs, i + 1, j, hj => by
  rw [List.flatMap_cons, List.getElem?_append_right (by rw [hf]; rw [Nat.add_mul]; omega), hf]; rw [show (i + 1) * n + j - n = i * n + j by rw [Nat.add_mul]; omega, zPS hf xs i j hj]; simp
theorem zNv {α : Type} (xs : List α) {i j : Nat} (hi : i < xs.length) (hj : j < xs.length) : (pairsOf xs)[i * xs.length + j]? = some (xs[i], xs[j]) := by
 unfold pairsOf; rw [zPS (n := xs.length) (fun a => by simp) xs i j hj, List.getElem?_eq_getElem hi]; simp [List.getElem?_eq_getElem hj]
theorem zKV {α : Type} {call : Oracle} {cmp : Nat} {t : Ty} {k : List Int → Option α} : ∀ (r : List (t.den × t.den)) (acc : List Int) (out : α), cmpsK call cmp t k r acc = some out →
  ∃ cs : List Int, cs.length = r.length ∧ k (acc ++ cs) = some out ∧ ∀ i p, r[i]? = some p → ∃ o, call cmp [⟨t, p.1⟩, ⟨t, p.2⟩] = some o ∧ cmpOut o = some (cs.getD i 0)
 | [], acc, out, h => ⟨[], rfl, by simpa [cmpsK] using h, fun i p hp => by simp at hp⟩
 | q :: r, acc, out, h => by
  simp only [cmpsK] at h
  cases ho : call cmp [⟨t, q.1⟩, ⟨t, q.2⟩] with
  | none => rw [ho] at h; simp at h
  | some o =>
   rw [ho] at h; simp only [Option.bind_some] at h
   cases hc : cmpOut o with
   | none => rw [hc] at h; simp at h
   | some c =>
    rw [hc] at h; simp only at h; obtain ⟨cs, h1, h2, h3⟩ := zKV r _ out h; refine ⟨c :: cs, by simp [h1], by rw [← h2]; simp, fun i p hp => ?_⟩
    cases i with
    | zero =>
     simp only [List.getElem?_cons_zero, Option.some.injEq] at hp; subst hp; exact ⟨o, ho, by simpa using hc⟩
    | succ i =>
     obtain ⟨o', g1, g2⟩ := h3 i p (by simpa using hp); exact ⟨o', g1, by simpa using g2⟩
theorem zOD {o : List TV} {c : Int} (h : cmpOut o = some c) : o = [⟨.int .i64, c⟩] := by
 unfold cmpOut at h
 split at h
 · simp only [Option.some.injEq] at h; subst h
   rfl
 · simp at h
theorem TRep.oneCell {w : World} {own : Bool} {ok : Nat → Prop} : ∀ {t : Ty} {x : t.den} {cs : List Value}, TRep w own ok t x cs → ∀ v ∈ cs, v.oneCell' = true
 | .int _, _, _, h, v, hv => by simp only [TRep] at h; subst h; simp at hv; subst hv; rfl
 | .bool, _, _, h, v, hv => by simp only [TRep] at h; subst h; simp at hv; subst hv; rfl
 | .arr _ _, _, _, h, v, hv => by
  simp only [TRep] at h; obtain ⟨_, rfl⟩ := h; obtain ⟨y, _, rfl⟩ := List.mem_map.1 hv
  rfl
 | .barr _, _, _, h, v, hv => by
  simp only [TRep] at h; obtain ⟨_, rfl⟩ := h; obtain ⟨y, _, rfl⟩ := List.mem_map.1 hv
  rfl
 | .pair a b, _, _, h, v, hv => by
  simp only [TRep] at h; obtain ⟨c1, c2, rfl, h1, h2⟩ := h
  rcases List.mem_append.1 hv with hv | hv
  · exact h1.oneCell v hv
  · exact h2.oneCell v hv
 | .slice _, _, _, h, v, hv => by
  simp only [TRep] at h; obtain ⟨_, _, rfl, _⟩ := h; simp at hv; subst hv
  rfl
theorem zSs {W w' : World} (hl : Like W w') (hs : W.heap.size ≤ w'.heap.size) (hb : ∀ b, b < W.heap.size → w'.heap[b]? = W.heap[b]?) :
  ∃ q os, w' = Sort.grow (W.drewN q) os := by
 obtain ⟨h1, h2, h3, h4⟩ := hl; refine ⟨w'.drawn - W.drawn, w'.heap.extract W.heap.size w'.heap.size, ?_⟩; have hd : w'.drawn = W.drawn + (w'.drawn - W.drawn) := by omega
 have hh : w'.heap = W.heap ++ w'.heap.extract W.heap.size w'.heap.size := by
  apply Array.ext_getElem?; intro k; rw [Array.getElem?_append]
  split
  · rename_i hk; exact hb k hk
  · rename_i hk; rw [Array.getElem?_extract]
    by_cases hk2 : k < w'.heap.size
    · rw [if_pos (by omega)]; congr 1; omega
    · rw [if_neg (by omega), Array.getElem?_eq_none (by omega)]
 cases w'
 cases W
 simp only [Sort.grow, World.drewN, World.mk.injEq] at *; exact ⟨hh, h2, hd, h1, h3⟩
section
variable {P : Program} {E : Env} {w : World}
theorem zKN {fd : FD} (q4 : ((initPs [] fd.sig.params 0 0).2.map (·.1)).Nodup) (q5 : fd.sig.params.length ≤ fd.fn.ntmps) {Ts : List TypeId} {tvs : List TV} {vs : List Value} (h : ArgsRel P w fd.sig.params Ts tvs vs) :
  ∃ ρ, Inv w Non All (fixOf fd vs) (fd.init tvs) ρ noCol ⟨vs.toArray ++ Array.replicate (fd.fn.ntmps - vs.length) undef, []⟩ w := by
 obtain ⟨vs', objs, e, hl, hr⟩ := zMc h [] 0; simp only [List.nil_append, List.length_nil] at e; have hnd : (objs.map (·.1)).Nodup := by
  have := zEv fd.sig.params tvs [] 0 0 0; rw [e] at this; simp only at this; rw [this]; exact q4
 obtain ⟨L, g1, g2⟩ := hr hnd; obtain ⟨hlen, hfix⟩ := h.len; have hinit : fd.init tvs = ⟨vs' ++ List.replicate (fd.fn.ntmps - vs'.length) .undef, Objs.none.upds objs⟩ := by simp only [FD.init, e]
 rw [hinit]
 refine ⟨L, rfl, by simp; omega, fun i u hi => ?_, fun o y hy => ?_, fun b o c hb => by simp at hb, fun b _ _ => rfl, Nat.le_refl _, fun q hq => ?_, Like.refl w⟩
 · rw [List.getElem?_append] at hi
   split at hi
   · rename_i hil; have hiv : i < vs.length := by omega
     have := g2 (Objs.none.upds objs) L (fun q hq => ⟨rfl, zG6 (List.mem_map_of_mem hq)⟩) i u _ hi (List.getElem?_eq_getElem hiv); have e2 : (vs.toArray ++ Array.replicate (fd.fn.ntmps - vs.length) undef).getD i Go.undef = vs[i] := by
      simp [Array.getD_eq_getD_getElem?, Array.getElem?_append, hiv]
     simp only [e2]; exact this
   · rw [List.getElem?_replicate] at hi
     split at hi
     · simp only [Option.some.injEq] at hi; exact .inl hi.symm
     · simp at hi
 · rcases zCJ hy with hm | ⟨hm, _⟩
   · refine RoRow.rel ?_ rfl; have := g1 _ hm; simp only at this
     cases y with
     | row m u xs =>
      cases m with
      | ro =>
       obtain ⟨k1, k2, k3⟩ := this; exact ⟨k1, k2.frame id (Nat.le_refl _) (fun b _ hb => ⟨⟨hb.1, .inl trivial⟩, rfl⟩), k3.frame id (Nat.le_refl _) (fun _ _ b _ hb => ⟨⟨hb.1, .inl trivial⟩, rfl⟩) (fun _ _ _ => rfl)⟩
      | own => exact this.elim
      | sh => exact this.elim
     | box _ _ => exact this.elim
     | dead => exact this.elim
   · simp [Objs.none] at hm
 · simp only [fixOf, FD.fixed, FD.kept, hfix 0, List.nil_append, List.mem_map, List.mem_filter, decide_eq_true_eq] at hq; obtain ⟨i, ⟨_, hi⟩, rfl⟩ := hq; have hi' : i < vs.length := by omega
   exact ⟨by simp; omega, by simp [Array.getD_eq_getD_getElem?, Array.getElem?_append, hi']⟩
theorem zRu {fd : FD} (q4 : ((initPs [] fd.sig.params 0 0).2.map (·.1)).Nodup) (q5 : fd.sig.params.length ≤ fd.fn.ntmps) (hres : fd.sig.res = [(.own, false, .int .i64)]) {Ts : List TypeId} {tvs : List TV} {vs : List Value}
  (h : ArgsRel P w fd.sig.params Ts tvs vs) {c : Int} (hspec : FnSpec P E fd tvs [⟨.int .i64, c⟩]) : Calls P fd.id vs.toArray w fun e w' => e = .returned (.int .i64 c) ∧ ∃ q os, w' = Sort.grow (w.drewN q) os := by
 obtain ⟨ρ, hi⟩ := zKN q4 q5 h; obtain ⟨hlen, hfix⟩ := h.len; refine Calls.mono (hspec w Non All ρ noCol vs hlen.symm h.kept hi) ?_; rintro e w' ⟨s', ρ', col', a', ws, rfl, hi', hfin, hws, _⟩; refine ⟨?_, zSs hi'.same hi'.mono (fun k hk => hi'.low k hk (fun h => h))⟩; obtain ⟨ws2, xs, us, ro, ys, vs2, _, r1, r2, r3, r4, r5, r6⟩ := zBY hfin; rw [hws] at r1; simp only [Option.some.injEq] at r1; subst r1; rw [hres] at r2
 match ws, r2 with
 | [u], r2 =>
  simp only [packRes] at r2
  split at r2
  · rename_i x1 u1 v1 x2 u2 v2 h1 h2; simp only [Option.some.injEq, Prod.mk.injEq] at h2 r2; obtain ⟨rfl, rfl, rfl⟩ := h2; obtain ⟨rfl, _, _⟩ := r2; simp only [packRes1] at h1
    split at h1
    · rename_i x us' hp
      split at h1
      · simp only [Option.some.injEq, Prod.mk.injEq] at h1; obtain ⟨rfl, _, _⟩ := h1
        cases u with
        | c cc =>
         cases cc with
         | int k b =>
          simp only [packW] at hp
          split at hp
          · rename_i hk; subst hk; simp only [Option.some.injEq, Prod.mk.injEq] at hp; obtain ⟨rfl, _⟩ := hp; simp only [List.append_nil, List.cons_append, List.nil_append, List.cons.injEq, TV.mk.injEq, heq_eq_eq, true_and] at r6; rw [r6.1]
            rfl
          · simp at hp
         | _ => simp [packW] at hp
        | _ => simp [packW] at hp
      · simp at h1
    · simp at h1
  · simp at r2
 | [], r2 => simp [packRes] at r2
 | _ :: _ :: _, r2 =>
  simp only [packRes] at r2
  split at r2
  · rename_i h2; simp at h2
  · simp at r2
end
end Go.Ev
namespace Go.Ev
open Go.Shelf
section
variable {α : Type} [Inhabited α] (enc : α → List Value) (k : Nat) (w : World) (blk off n : Nat) (d : Array α) (os : Array Go.Obj)
theorem zDQ : w.heap.size ≤ (Go.Proofs.sortWorldK enc k w blk off n d os).heap.size := Go.Proofs.size_sortWorldK_c enc k w blk off n d os
theorem zFZ {b : Nat} (hb : b < w.heap.size) (hne : b ≠ blk) : (Go.Proofs.sortWorldK enc k w blk off n d os).heap[b]? = w.heap[b]? := by
 unfold Go.Proofs.sortWorldK Sort.grow Sort.putRowK Sort.putRow Sort.mapBlock Sort.ahead; simp only; rw [Array.getElem?_append_left (by simpa using hb), Array.getElem?_modify, if_neg (Ne.symm hne)]
theorem zNo {cs : Array Value} {T : TypeId} {fr : Nat × Nat} (h : w.heap[blk]? = some (.cells cs T fr)) :
  ∃ cs', (Go.Proofs.sortWorldK enc k w blk off n d os).heap[blk]? = some (.cells cs' T fr) ∧ cs'.size = cs.size := by
 have hb : blk < w.heap.size := by
  rw [Array.getElem?_eq_some_iff] at h; exact h.1
 refine ⟨Sort.putCells id off (Sort.flatK enc k d) cs, ?_, by simp [Sort.putCells]⟩; unfold Go.Proofs.sortWorldK Sort.grow Sort.putRowK Sort.putRow Sort.mapBlock Sort.ahead; simp only; rw [Array.getElem?_append_left (by simpa using hb), Array.getElem?_modify, if_pos rfl, h]
 rfl
theorem zP4 : Like w (Go.Proofs.sortWorldK enc k w blk off n d os) := ⟨rfl, rfl, rfl, Nat.le_add_right _ _⟩
end
theorem zUt {n : Nat} {lt : Fin n → Fin n → Bool} (h : swoB lt = true) : Sort.SWO lt := by
 simp only [swoB, Bool.and_eq_true, decide_eq_true_eq] at h; exact ⟨h.1.1, h.1.2, h.2⟩
theorem zO3 {w : World} {own : Bool} {ok : Nat → Nat → Prop} {t : Ty} {xs : List t.den} {addr : Option Addr} (h : Elems w own ok t xs addr) :
  ∃ enc : Fin xs.length → List Value, ∀ i : Fin xs.length, TRep w own (ok i.val) t xs[i.val] (enc i) ∧ ∀ j v, (enc i)[j]? = some v → cellAt w addr (i.val * t.cells + j) = some v :=
 ⟨fun i => (h i.val _ (List.getElem?_eq_getElem i.isLt)).choose, fun i => (h i.val _ (List.getElem?_eq_getElem i.isLt)).choose_spec⟩
open Classical in
noncomputable def newPlace {n : Nat} (out : Array (Fin n)) (c : Nat) : Nat := if h : ∃ i, ∃ q : Fin n, out.toList[i]? = some q ∧ q.val = c then h.choose else c
theorem zNy {n : Nat} {out : Array (Fin n)} (hn : out.toList.Nodup) {i : Nat} {q : Fin n} (h : out.toList[i]? = some q) : newPlace out q.val = i := by
 unfold newPlace; have hex : ∃ i, ∃ q' : Fin n, out.toList[i]? = some q' ∧ q'.val = q.val := ⟨i, q, h, rfl⟩; rw [dif_pos hex]; obtain ⟨q', h1, h2⟩ := hex.choose_spec; have e : q' = q := Fin.ext h2; subst e; have hl := (List.getElem?_eq_some_iff.1 h).1; exact ((List.getElem?_inj hl hn).1 (h.trans h1.symm)).symm
noncomputable def sortCol {n : Nat} (col : Col) (out : Array (Fin n)) : Col := fun b => match col b with
 | some (o, c + 1) => some (o, newPlace out c + 1)
 | x => x
theorem zHj {n : Nat} {col : Col} {out : Array (Fin n)} {b o : Nat} (h : col b = some (o, 0)) : sortCol col out b = some (o, 0) := by simp [sortCol, h]
theorem zEI {n : Nat} {col : Col} {out : Array (Fin n)} {b o c : Nat} (h : col b = some (o, c + 1)) : sortCol col out b = some (o, newPlace out c + 1) := by simp [sortCol, h]
theorem zHk {n : Nat} {col : Col} {out : Array (Fin n)} {b : Nat} (h : col b = none) : sortCol col out b = none := by simp [sortCol, h]
theorem zP6 {n : Nat} {col : Col} {out : Array (Fin n)} {b : Nat} {Y : Nat → Prop} (h : RO col Y b) : RO (sortCol col out) Y b := by
 refine ⟨?_, h.2⟩
 rcases h.1 with e | ⟨o, i, e⟩
 · exact .inl (zHk e)
 · exact .inr ⟨o, _, zEI e⟩
theorem zMD {n : Nat} {col : Col} {out : Array (Fin n)} {b o c : Nat} (h : sortCol col out b = some (o, c)) : ∃ c', col b = some (o, c') := by
 cases hb : col b with
 | none => rw [zHk hb] at h; simp at h
 | some y =>
  obtain ⟨o', c'⟩ := y
  cases c' with
  | zero =>
   rw [zHj hb] at h; simp only [Option.some.injEq, Prod.mk.injEq] at h; exact ⟨0, by rw [h.1]⟩
  | succ c' =>
   rw [zEI hb] at h; simp only [Option.some.injEq, Prod.mk.injEq] at h; exact ⟨c' + 1, by rw [h.1]⟩
theorem zQA {n : Nat} {out : Array (Fin n)} (hs : out.size = n) (hp : (out.extract 0 n).toList.Perm ((Array.ofFn fun i : Fin n => i).extract 0 n).toList) : out.toList.Nodup := by
 have e1 : out.extract 0 n = out := by
  have : out.extract 0 out.size = out := by simp
  rw [hs] at this; exact this
 have e2 : (Array.ofFn fun i : Fin n => i).extract 0 n = (Array.ofFn fun i : Fin n => i) := by
  apply Array.ext
  · simp
  · intro i h1 h2; simp
 rw [e1, e2] at hp; refine hp.nodup_iff.2 ?_; refine List.pairwise_iff_getElem.2 fun i j hi hj hij he => ?_; simp at he; omega
section
variable {P : Program} {E : Env}
theorem zQ8 {fd : FD} {f : FuncId} {t : Ty} {m : Mode} (hm : (m = .own ∧ fd.sig.params = [.mut (.slice t), .fn f []]) ∨ (m = .sh ∧ fd.sig.params = [.muts (.slice t), .fn f []])) (tvs : List TV) :
  fd.init tvs = ⟨[.w (.c (.sl 1000)), .fn f []] ++ List.replicate (fd.fn.ntmps - 2) .undef, Objs.none.upd 1000 (.row m t (getTV (.slice t) tvs 0))⟩ := by
 rcases hm with ⟨rfl, hp⟩ | ⟨rfl, hp⟩ <;> simp [FD.init, hp, initPs, PK.init, unpackW, unpackCaps, Objs.upds, idOf]
theorem zIc {fd : FD} {f : FuncId} {t : Ty} {m : Mode} (hm : (m = .own ∧ fd.sig.params = [.mut (.slice t), .fn f []]) ∨ (m = .sh ∧ fd.sig.params = [.muts (.slice t), .fn f []])) (hr : fd.sig.res = []) (hres : fd.fn.results = #[])
  (l : List V) (ys : List t.den) : fd.finish E ⟨[.w (.c (.sl 1000)), .fn f []] ++ l, Objs.none.upd 1000 (.row m t ys)⟩ = some [⟨.slice t, ys⟩] ∧ resWs E ⟨[.w (.c (.sl 1000)), .fn f []] ++ l, Objs.none.upd 1000 (.row m t ys)⟩ fd.fn.results.toList = some [] := by
 rcases hm with ⟨rfl, hp⟩ | ⟨rfl, hp⟩ <;>
  simp [FD.finish, hr, hres, hp, resWs, packRes, backPs, PK.back, packW, rowAs, Objs.upd, apart]
theorem zTv {ρr : Ren} (L : Go.Proofs.SlLaysF0.n6 P ρr) {fd fd2 : FD} {cmp : Nat} {t : Ty} {T : TypeId} (hT : TyOK P t T) (hsc : t.scalar = false)
  (aE : ∀ w, (isAgg (ρr.t 24)).run P w = .ok true w) (zE : ∀ w, (Go.sizeOf (ρr.t 24)).run P w = .ok t.cells w) (hid : ρr.f 6 = fd.id)
  (hm : fd.sig.params = [.mut (.slice t), .fn fd2.id []] ∨ fd.sig.params = [.muts (.slice t), .fn fd2.id []]) (hr : fd.sig.res = []) (hres : fd.fn.results = #[])
  (h2 : E.fd cmp = some fd2) (ok2 : FdOk P fd2) (hp2 : fd2.sig.params = [.ro t, .ro t]) (hr2 : fd2.sig.res = [(.own, false, .int .i64)]) : ExtOk P E fd (.sort cmp t) := by
 obtain ⟨m, hm1, hm2⟩ : ∃ m : Mode, (m = .own ∨ m = .sh) ∧ ((m = .own ∧ fd.sig.params = [.mut (.slice t), .fn fd2.id []]) ∨ (m = .sh ∧ fd.sig.params = [.muts (.slice t), .fn fd2.id []])) := by
  rcases hm with h | h
  · exact ⟨.own, .inl rfl, .inl ⟨rfl, h⟩⟩
  · exact ⟨.sh, .inr rfl, .inr ⟨rfl, h⟩⟩
 have hmine : m.mine = true := by rcases hm1 with rfl | rfl <;> rfl
 obtain ⟨o1, o2, o3, o4, o5⟩ := ok2; have eg : ∀ args w, (callFunc fd2.id args).run P w = .ok (.enter fd2.id args) w := by
  intro args w; have q2' : ¬ fd2.fn.name = "runtime.NumGoroutine" := by simpa using o2
  have q3' : ¬ fd2.fn.body = none := fun e => by rw [e] at o3; simp at o3
  simp [callFunc, o1, q2', q3']
 intro call tvs outs hcall hx w0 X Y0 ρ col args hal _ hin; rw [zQ8 hm2] at hin; simp only [extE] at hx; generalize hxs : getTV (.slice t) tvs 0 = xs at hx hin; have hal2 : args.length = 2 := by rw [hal]; rcases hm2 with ⟨_, h⟩ | ⟨_, h⟩ <;> rw [h] <;> rfl
 obtain ⟨a0, a1, rfl⟩ : ∃ a0 a1, args = [a0, a1] := by
  match args, hal2 with
  | [a0, a1], _ => exact ⟨a0, a1, rfl⟩
 have e0 : a0 = .slice (ρ 1000).addr (ρ 1000).len (ρ 1000).cap := by
  have := hin.tmps 0 (.w (.c (.sl 1000))) (by simp)
  rcases this with h | ⟨_, h⟩
  · simp at h
  · simpa [vval, wval, cval, Array.getD_eq_getD_getElem?, Array.getElem?_append] using h
 have e1 : a1 = .func (.func fd2.id) #[] #[] := by
  have := hin.tmps 1 (.fn fd2.id []) (by simp)
  rcases this with h | ⟨_, h⟩
  · simp at h
  · simpa [vval, Array.getD_eq_getD_getElem?, Array.getElem?_append] using h
 subst e0 e1; obtain ⟨k1, k2, k3⟩ := hin.objs 1000 (.row m t xs) (by simp [Objs.upd]); rw [← hid]
 cases xs with
 | nil =>
  simp only [sortE, Option.some.injEq] at hx; subst hx; have hl : (ρ 1000).len = 0 := k1; have hc : Calls P (ρr.f 6) #[.slice (ρ 1000).addr (ρ 1000).len (ρ 1000).cap, .func (.func fd2.id) #[] #[]] w0 fun e w' => e = .returned (.tuple #[]) ∧ w' = w0 := by
   rw [hl]; exact Go.Proofs.AnyF.slices_SortFunc_none L (ρ 1000).addr (ρ 1000).cap _ w0
  refine Calls.mono hc ?_; rintro e w' ⟨rfl, rfl⟩; obtain ⟨f1, f2⟩ := zIc (E := E) hm2 hr hres (List.replicate (fd.fn.ntmps - 2) .undef) []; exact ⟨_, ρ, col, _, [], rfl, hin, f1, f2, fun x hx => by simp at hx⟩
 | cons x r =>
  simp only [sortE] at hx
  split at hx
  · rename_i hlim; obtain ⟨cs, c1, c2, c3⟩ := zKV _ _ _ hx; simp only [List.nil_append] at c2
    split at c2
    · rename_i hswo; simp only [Option.some.injEq] at c2; have hlen : (ρ 1000).len = r.length + 1 := k1; obtain ⟨blk, off, haddr⟩ := zII k2 (by simp); obtain ⟨_, hblk, hcol, hown⟩ := k2.2.2 _ haddr (.inl (by simp)); simp only at hblk hcol hown; obtain ⟨ccs, cT, hcells, hroom⟩ := hown hmine; have hcol' : col blk = some (1000, 0) := by rcases hm1 with rfl | rfl <;> exact hcol
      have hX : X blk := by
       rcases (hin.cold _ _ _ hcol').1 with h | h
       · omega
       · exact h
      obtain ⟨enc, henc⟩ := zO3 k3; have hkl : ∀ i, (enc i).length = t.cells := fun i => (henc i).1.len; have hone : ∀ i, ∀ v ∈ enc i, v.oneCell' = true := fun i => (henc i).1.oneCell; have hO : Sort.SWO (Go.Proofs.ltOf (cfC (r.length + 1) cs)) := zUt hswo; have hro : ∀ i b, okE col (fun b => Y0 b ∨ w0.heap.size ≤ b ∨ X b) m 1000 i b → b ≠ blk := by
       rintro i b h rfl
       rcases hm1 with rfl | rfl
       · simp only [okE] at h; rw [hcol'] at h; simp at h
       · obtain ⟨h, _⟩ := h; rcases h with h | ⟨o, i, h⟩ <;> rw [hcol'] at h <;> simp at h
      have hcmp : ∀ sz, Go.Proofs.CmpLays P fd2.id #[] (α := Fin (r.length + 1)) enc t.cells (cfC (r.length + 1) cs) blk off sz w0 := by
       intro sz m' os dk _ i j; have hi := i.isLt; have hj := j.isLt; obtain ⟨o, g1, g2⟩ := c3 (i.val * (r.length + 1) + j.val) _ (zNv (x :: r) (i := i.val) (j := j.val) hi hj); have g3 := zOD g2; subst g3; have hspec := hcall _ _ _ _ h2 g1; have fr : ∀ i : Fin (r.length + 1), TRep (Go.Proofs.sortWorldK enc t.cells w0 blk off m' dk os) false (fun _ => True) t (x :: r)[i.val] (enc i) := fun i =>
        (henc i).1.frame (by simp) (zDQ ..) (fun b hb hr => ⟨trivial, zFZ _ _ _ _ _ _ _ _ hb (hro _ b hr)⟩)
       have := zRu (P := P) (E := E) (w := Go.Proofs.sortWorldK enc t.cells w0 blk off m' dk os) o4 o5 hr2 (Ts := [T, T]) (vs := [.agg (enc i).toArray, .agg (enc j).toArray])
        (by rw [hp2]; exact .cons ⟨hT, enc i, fr i, fun h => by rw [hsc] at h; simp at h, fun _ => rfl⟩ (.cons ⟨hT, enc j, fr j, fun h => by rw [hsc] at h; simp at h, fun _ => rfl⟩ .nil)) hspec
       exact this
      have hds : (Array.ofFn fun i : Fin (r.length + 1) => i).size = r.length + 1 := by simp
      have hget : ∀ j, j < r.length + 1 → ((Array.ofFn fun i : Fin (r.length + 1) => i)[j]!).val = j := by
       intro j hj; rw [getElem!_pos _ j (by simpa using hj)]; simp
      have hH : Sort.HoldsK enc t.cells w0 blk off (Array.ofFn fun i : Fin (r.length + 1) => i) := by
       intro j hj; rw [Sort.size_flatK, hds] at hj; rw [Sort.get_flatK _ _ _ _ (by rw [hds]; exact hj)]
       have hk0 : 0 < t.cells := by rcases Nat.eq_zero_or_pos t.cells with h | h; · rw [h] at hj; simp at hj
                                    · exact h
       have hq : j / t.cells < r.length + 1 := (Nat.div_lt_iff_lt_mul hk0).2 hj; have hmod : j % t.cells < t.cells := Nat.mod_lt _ hk0; have hg := hget _ hq; generalize (Array.ofFn fun i : Fin (r.length + 1) => i)[j / t.cells]! = q at hg ⊢; have hv : (enc q)[j % t.cells]? = some (enc q)[j % t.cells]! := by
        rw [getElem!_pos _ _ (by rw [hkl]; exact hmod)]; exact List.getElem?_eq_getElem _
       have := (henc q).2 _ _ hv; rw [hg, haddr] at this; simp only [cellAt, Option.bind_some] at this; rw [Nat.div_add_mod' j t.cells] at this; refine ⟨this, ?_⟩; simp only [World.frozen?, hcells]; simp
      have hsz : (Array.ofFn fun i : Fin (r.length + 1) => i).size < 4611686018427387904 := by
       rw [hds]; simp only [lim] at hlim; omega
      have hc := Go.Proofs.AnyQ.slices_SortFunc_eq (α := Fin (r.length + 1)) L t.cells aE zE enc hkl hone (cfC (r.length + 1) cs) hO fd2.id #[] blk off (ρ 1000).cap _ w0 eg (hcmp _) hH hblk hsz; obtain ⟨hperm, _, hpm⟩ := (Go.Sort.pdq_sorts (Go.Proofs.ltOf (cfC (r.length + 1) cs)) hO (Array.ofFn fun i : Fin (r.length + 1) => i) 0 (r.length + 1) (Lib.bitLen (r.length + 1)) true true (Nat.zero_le _) (by rw [hds]; exact Nat.le_refl _) (Or.inl rfl)).1; rw [hds] at hc hperm; have hc2 := Calls.mono (P := P) (f := ρr.f 6) (args := #[.slice (ρ 1000).addr (ρ 1000).len (ρ 1000).cap, .func (.func fd2.id) #[] #[]]) (w := w0) (by rw [haddr, hlen]; exact hc) (fun e w' h => h); obtain ⟨act, hin⟩ := Exists.intro (p := fun act => Inv w0 X Y0 (fixOf fd [.slice (ρ 1000).addr (ρ 1000).len (ρ 1000).cap, .func (.func fd2.id) #[] #[]]) _ ρ col act w0) _ hin; refine Calls.mono hc2 ?_; rintro e w' ⟨rfl, nn, os, rfl⟩; have hsb : Sort.pdq (Go.Proofs.ltOf (cfC (r.length + 1) cs)) (Array.ofFn fun i : Fin (r.length + 1) => i) 0 (r.length + 1) (Lib.bitLen (r.length + 1)) true true = sortBy (ltC (r.length + 1) cs) := rfl; rw [hsb] at hperm hpm; rw [hsb]; generalize sortBy (ltC (r.length + 1) cs) = out at hperm hpm c2; have hnd := zQA hperm hpm; obtain ⟨f1, f2⟩ := zIc (E := E) hm2 hr hres (List.replicate (fd.fn.ntmps - 2) .undef) (out.toList.map fun i => (x :: r).getD i.val x); refine ⟨_, ρ, sortCol col out, act, [], rfl, ?_, by rw [← c2]; exact f1, f2, fun x hx => by simp at hx⟩; have hst : Stays (Objs.none.upd 1000 (.row m t (x :: r))) (Objs.none.upd 1000 (.row m t (out.toList.map fun i => (x :: r).getD i.val x))) ρ ρ := by
       intro o ho; refine ⟨?_, rfl⟩; simp only [Objs.upd] at ho ⊢
       split
       · simp
       · rename_i hne; rw [if_neg hne] at ho; exact ho
      have hHW := Go.Proofs.holdsK_sortWorldK_c enc t.cells w0 blk off _ out nn os hH hblk (by rw [hds]; exact hperm)
      refine ⟨hin.defers, hin.size, fun i v hv => hst.vrel (hin.tmps i v hv), fun o y hy => ?_, fun b o c hb => ?_, fun b hb hx => ?_, Nat.le_trans hin.mono (zDQ ..), hin.fixed, hin.same.trans (zP4 ..)⟩
      · simp only [Objs.upd] at hy
        split at hy
        · rename_i ho; subst ho; simp only [Option.some.injEq] at hy; subst hy; have hyl : (out.toList.map fun i => (x :: r).getD i.val x).length = r.length + 1 := by simp [hperm]
          refine ⟨by rw [hyl]; exact hlen, ?_, ?_⟩
          · rw [hyl]; refine ⟨k2.1, fun h => (by rw [haddr] at h; simp at h), fun a ha _ => ?_⟩; rw [haddr] at ha; simp only [Option.some.injEq] at ha; subst ha; refine ⟨rfl, Nat.lt_of_lt_of_le hblk (zDQ ..), by rcases hm1 with rfl | rfl <;> exact zHj hcol', fun _ => ?_⟩; obtain ⟨cs', g1, g2⟩ := zNo enc t.cells w0 blk off nn out os hcells; exact ⟨cs', cT, g1, by rw [g2]; exact hroom⟩
          · intro i y hy; rw [List.getElem?_map, Option.map_eq_some_iff] at hy; obtain ⟨q, hq, rfl⟩ := hy; have hio : i < out.size := by
             have := (List.getElem?_eq_some_iff.1 hq).1; simpa using this
            have hq' : out[i]! = q := by
             rw [getElem!_pos out i hio]; have := (List.getElem?_eq_some_iff.1 hq).2; simpa using this
            have hy : (x :: r).getD q.val x = (x :: r)[q.val] := by
             have hql : q.val < (x :: r).length := q.isLt; rw [List.getD_eq_getElem?_getD, List.getElem?_eq_getElem hql]
             rfl
            rw [hy]
            refine ⟨enc q, ?_, fun j v hv => ?_⟩
            · refine (henc q).1.frame id (zDQ ..) (fun b hb hr => ⟨?_, zFZ _ _ _ _ _ _ _ _ hb (hro _ b hr)⟩)
              rcases hm1 with rfl | rfl
              · have := zEI (out := out) hr; rw [zNy hnd hq] at this; exact this
              · have hr' : RO col (fun b => Y0 b ∨ w0.heap.size ≤ b ∨ X b) b := hr; exact zP6 hr'
            · have hjk : j < t.cells := by rw [← hkl q]; exact (List.getElem?_eq_some_iff.1 hv).1
              have := (hHW.cell hio hjk).1; rw [haddr]; simp only [cellAt, Option.bind_some]; rw [← Nat.add_assoc, this, hq', getElem!_pos _ _ (by rw [hkl]; exact hjk), ← (List.getElem?_eq_some_iff.1 hv).2]
        · simp [Objs.none] at hy
      · obtain ⟨c', hb'⟩ := zMD hb; obtain ⟨g1, g2, g3⟩ := hin.cold b o c' hb'; exact ⟨g1, Nat.lt_of_lt_of_le g2 (zDQ ..), (hst o g3).1⟩
      · rw [zFZ _ _ _ _ _ _ _ _ hb (fun e => hx (e ▸ hX))]
    · simp at c2
  · simp at hx
end
end Go.Ev
namespace Go.Ev
section
variable {P : Program} {E : Env}
theorem zc {ops : Array Oper} {Q : Exit → Act → World → Prop} {i : Nat} {rest : List Nat} {o : Oper} {a : Act} {w w' : World} {d : Nat} {v : Value} (ho : ops[i]? = some o) (hg : o.guard = none) (hd : o.dst = some d)
  (hr : (execOp a.eval o).run P w = .ok (.value v) w') (h : wpOps P ops Q rest (a.put (some d) v) w') : wpOps P ops Q (i :: rest) a w := kG ho hg (by unfold Oper.wp; rw [hr, Oper.upon_value, hd]; exact h)
theorem zUp {ops : Array Oper} {Q : Exit → Act → World → Prop} {i : Nat} {rest : List Nat} {o : Oper} {a : Act} {w w' : World} {v : Value} (ho : ops[i]? = some o) (hg : o.guard = none) (hd : o.dst = none)
  (hr : (execOp a.eval o).run P w = .ok (.value v) w') (h : wpOps P ops Q rest a w') : wpOps P ops Q (i :: rest) a w := kG ho hg (by unfold Oper.wp; rw [hr, Oper.upon_value, hd]; exact h)
theorem zUo {ops : Array Oper} {Q : Exit → Act → World → Prop} {i : Nat} {rest : List Nat} {o : Oper} {a : Act} {w w' : World} (ho : ops[i]? = some o) (hg : o.guard = none) (hd : o.dst = none)
  (hr : (execOp a.eval o).run P w = .ok .skip w') (h : wpOps P ops Q rest a w') : wpOps P ops Q (i :: rest) a w := kG ho hg (by unfold Oper.wp; rw [hr, Oper.upon_skip, hd]; exact h)
theorem zOn {ops : Array Oper} {Q : Exit → Act → World → Prop} {i : Nat} {rest : List Nat} {o : Oper} {a : Act} {w : World} {f : FuncId} {args : Array Value} {d : Nat} (ho : ops[i]? = some o) (hg : o.guard = none) (hd : o.dst = some d)
  (hr : (execOp a.eval o).run P w = .ok (.enter f args) w) (h : Calls P f args w fun e w' => ∃ v, e = .returned v ∧ wpOps P ops Q rest (a.put (some d) v) w') : wpOps P ops Q (i :: rest) a w := by
 refine kG ho hg ?_; unfold Oper.wp; rw [hr, Oper.upon_enter, hd]; refine h.mono ?_; rintro e w' ⟨v, rfl, h⟩; exact h
theorem zAU {ops : Array Oper} {K : Act → World → Prop} {Q : Exit → Act → World → Prop} {a : Act} {w : World} (h : K a w) : wpOps P ops (Exit.then K Q) [] a w := h
theorem zUq {ops : Array Oper} {Q : Exit → Act → World → Prop} {a : Act} {w : World} (h : Q .normal a w) : wpOps P ops Q [] a w := h
theorem zH {a : Act} {d e : Nat} (hd : d < a.tmps.size) (v : Value) : (a.put (some d) v).eval (.tmp e) = if d = e then v else a.eval (.tmp e) := by
 show (a.tmps.setIfInBounds d v).getD e undef = _; rw [Array.getD_eq_getD_getElem?, Array.getElem?_setIfInBounds]
 by_cases h : d = e
 · subst h; rw [if_pos rfl, if_pos rfl, if_pos hd]
   rfl
 · rw [if_neg h, if_neg h, ← Array.getD_eq_getD_getElem?]
   rfl
theorem zC (a : Act) (d : Nat) (v : Value) : (a.put (some d) v).tmps.size = a.tmps.size := by
 show (a.tmps.setIfInBounds d v).size = _; simp
theorem zCU (a : Act) (d : Nat) (v : Value) : (a.put (some d) v).defers = a.defers := rfl
theorem zE0 {f : FuncId} {fn : Func} {c : Code} {S F : Value} {w : World} {R : Ending → World → Prop} {m : Nat} (hf : P.funcs[f]? = some fn) (hb : fn.body = some c) (hm : fn.ntmps = m) (h2 : 2 ≤ m)
  (h : ∀ a : Act, a.tmps.size = m → a.defers = [] → a.eval (.tmp 0) = S → a.eval (.tmp 1) = F → c.wp P (bodyPost P fn R) a w) : Calls P f #[S, F] w R := by
 refine calls_of_wp hf hb (h _ ?_ rfl ?_ ?_)
 · simp [hm]; omega
 · show (_ : Array Value).getD 0 undef = _; simp [Array.getD_eq_getD_getElem?, Array.getElem?_append]
 · show (_ : Array Value).getD 1 undef = _; simp [Array.getD_eq_getD_getElem?, Array.getElem?_append]
def natOf : Value → Nat
 | .int _ x => x.toNat
 | _ => 0
theorem zGw {T : Option Ty} {i : Nat} (h : i ≤ 549755813888) : binW .add T (.c (.int .i64 (i : Int))) (.c (.int .i64 1)) = some (true, .c (.int .i64 ((i + 1 : Nat) : Int))) := by
 have : IntKind.wrap .i64 ((i : Int) + 1) = ((i + 1 : Nat) : Int) := by
  rw [Int.natCast_add]; exact zF (by omega) (by omega)
 simp only [binW, intOp, if_true, this]
variable {a : Act} {w : World} {o : Oper}
theorem r_mv {x : Operand} {v : Value} (hop : o.op = .move x ∨ o.op = .assign x) (hx : a.eval x = v) : (execOp a.eval o).run P w = .ok (.value v) w := by
 rcases hop with h | h <;> simp [execOp, h, hx]
theorem zJn {op : BinOp} {T T' : TypeId} {x y : Operand} {k : IntKind} {m m' : Int} {u : C} (hE : EnvTy P E) (hop : o.op = .binOp op T x y T') (hx : a.eval x = .int k m) (hy : a.eval y = .int k m')
  (hb : binW op (E.ty T) (.c (.int k m)) (.c (.int k m')) = some (true, .c u)) : (execOp a.eval o).run P w = .ok (.value (cval (fun _ => ⟨none, 0, 0⟩) u)) w := by
 have := (zKf (P := P) (ρ := fun _ => ⟨none, 0, 0⟩) (ob := Objs.none) hE hb rfl trivial trivial x y w).2; simp only [wval, cval] at this; simp only [execOp, hop, hx, hy]; exact kA this
theorem zT6 {T e : TypeId} {x : Operand} {addr : Option Addr} {n cap : Nat} (hT : P.underlying T = some (.slice e)) (hop : o.op = .call { callee := .builtin .len, args := #[x], argTypes := #[T] }) (hx : a.eval x = .slice addr n cap) :
  (execOp a.eval o).run P w = .ok (.value (.int .i64 n)) w := by
 simp [execOp, hop, resolve, hx, invoke, builtin, zGN hT]
theorem zT7 {T e : TypeId} {i : TypeInfo} (hT : P.underlying T = some (.slice e)) (hi : P.info? e = some i) {x y : Operand} {b off len cap n : Nat} {k : IntKind} (hop : o.op = .indexAddr T x y) (hx : a.eval x = .slice (some ⟨b, off, none⟩) len cap)
  (hy : a.eval y = .int k (n : Int)) (hn : n < len) : (execOp a.eval o).run P w = .ok (.value (.pointer (some ⟨b, off + n * i.size, none⟩))) w := by
 have := zCg (P := P) hT hi b off len cap k (n : Int) (by omega) (by omega) w; simp only [Int.toNat_natCast] at this; simp [execOp, hop, hx, hy, this]
theorem r_ld (hE : EnvTy P E) {T : TypeId} {t : Ty} (ht : E.ty T = some t) (hts : t.scalar = false) {x : Operand} {b off : Nat} {vs : List Value} (hop : o.op = .load T x) (hx : a.eval x = .pointer (some ⟨b, off, none⟩)) (hl : vs.length = t.cells)
  (hc : ∀ j v, vs[j]? = some v → w.cell? ⟨b, off + j, none⟩ = some v) : (execOp a.eval o).run P w = .ok (.value (.agg vs.toArray)) w := by
 have := zC4 hE ht hts hl hc; simp [execOp, hop, hx, this]
theorem zVk {T : TypeId} {x : Operand} {b : Bool} (hop : o.op = .unOp .not T x) (hx : a.eval x = .bool b) : (execOp a.eval o).run P w = .ok (.value (.bool !b)) w := by
 simp [execOp, hop, hx, Op.unary]
theorem r_fn {g : Nat} {x : Operand} {args : Array Operand} {tys : Array TypeId} (hop : o.op = .call { callee := .value x, args := args, argTypes := tys }) (hx : a.eval x = .func (.func g) #[] #[]) (eg : ∀ args w, (callFunc g args).run P w = .ok (.enter g args) w) :
  (execOp a.eval o).run P w = .ok (.enter g (args.map a.eval)) w := by
 simp [execOp, hop, resolve, hx, Deferred.ofValue, invoke, eg]
theorem zT9 (hE : EnvTy P E) {T : TypeId} {t : Ty} (ht : E.ty T = some t) (hop : o.op = .alloc T) : ∃ cs : List Value, cs.length = t.cells ∧
  (execOp a.eval o).run P w = .ok (.value (.pointer (some ⟨w.heap.size, 0, none⟩))) (w.alloc (.cells cs.toArray T)) := by
 obtain ⟨i, hi, hz, hs, _, hc1, _⟩ := (hE T _ ht).base; refine ⟨wcells (fun _ => ⟨none, 0, 0⟩) t.zeroW, (zAT (fun _ => ⟨none, 0, 0⟩) (hE T _ ht) w false (fun _ => True)).len, ?_⟩; rw [← zS]; simp [execOp, hop, Instr.alloc, kY hi hz, newVar, newRow]
theorem zUy {T e : TypeId} {i : TypeInfo} (hT : P.underlying T = some (.slice e)) (hi : P.info? e = some i) {x y : Operand} {b off len cap n : Nat} {k : IntKind} (hop : o.op = .slice T x (some y) none none) (hx : a.eval x = .slice (some ⟨b, off, none⟩) len cap)
  (hy : a.eval y = .int k (n : Int)) (hn : n < len) (hc : len ≤ cap) : (execOp a.eval o).run P w = .ok (.value (.slice (some ⟨b, off + n * i.size, none⟩) (len - n) (cap - n))) w := by
 have := zO0 (P := P) hT hi (len := len) (addr := some ⟨b, off, none⟩) (cap := cap) (k := k) (n := (n : Int)) (by omega) (by omega) w; rw [Int.toNat_natCast, if_neg (by omega)] at this; simp only [Option.map_some, zCb] at this; simp [execOp, hop, hx, hy, this]
theorem zUz {T e : TypeId} {i : TypeInfo} (hT : P.underlying T = some (.slice e)) (hi : P.info? e = some i) {x y : Operand} {b off len cap n : Nat} {k : IntKind} (hop : o.op = .slice T x none (some y) none) (hx : a.eval x = .slice (some ⟨b, off, none⟩) len cap)
  (hy : a.eval y = .int k (n : Int)) (hn : n ≤ cap) (h0 : 0 < cap) : (execOp a.eval o).run P w = .ok (.value (.slice (some ⟨b, off, none⟩) n cap)) w := by
 have hb := run_sliceBound (P := P) w k (n : Int) cap .sliceAcap (by omega) (by omega); have hne : ¬ cap = 0 := by omega
 simp [execOp, hop, hx, hy, Instr.sliceAt, run_underlying hT, Instr.slice, Instr.sliceBounds, zV hi, hb, hne, zCb]
theorem zEs {fn : Func} {d : Nat} {v : Value} (h : fn.results = #[.tmp d]) (hv : a.eval (.tmp d) = v) : (results fn a.tmps).run P w = .ok v w := by
 rw [zJ6, h]; have : a.tmps.getD d undef = v := hv; simp [resF, this]
def KeepA (w w' : World) : Prop := w.heap.size ≤ w'.heap.size ∧ Like w w' ∧ ∀ b, b < w.heap.size → w'.heap[b]? = w.heap[b]?
def KeepB (blk : Nat) (w w' : World) : Prop := w.heap.size ≤ w'.heap.size ∧ Like w w' ∧ ∀ b, b < w.heap.size → b ≠ blk → w'.heap[b]? = w.heap[b]?
theorem KeepA.refl (w : World) : KeepA w w := ⟨Nat.le_refl _, Like.refl w, fun _ _ => rfl⟩
theorem KeepA.trans {w w' w'' : World} (h : KeepA w w') (g : KeepA w' w'') : KeepA w w'' :=
 ⟨Nat.le_trans h.1 g.1, h.2.1.trans g.2.1, fun b hb => (g.2.2 b (Nat.lt_of_lt_of_le hb h.1)).trans (h.2.2 b hb)⟩
theorem KeepA.b {w w' : World} (h : KeepA w w') (blk : Nat) : KeepB blk w w' := ⟨h.1, h.2.1, fun b hb _ => h.2.2 b hb⟩
theorem KeepB.trans {blk : Nat} {w w' w'' : World} (h : KeepB blk w w') (g : KeepB blk w' w'') : KeepB blk w w'' :=
 ⟨Nat.le_trans h.1 g.1, h.2.1.trans g.2.1, fun b hb hn => (g.2.2 b (Nat.lt_of_lt_of_le hb h.1) hn).trans (h.2.2 b hb hn)⟩
theorem zQJ (w : World) (x : Go.Obj) : KeepA w (w.alloc x) := by
 refine ⟨by rw [kW]; omega, ⟨rfl, rfl, rfl, Nat.le_refl _⟩, fun b hb => heap_alloc_old w x hb⟩
def At (w : World) (blk off k r : Nat) (ys : List Value) : Prop := ∀ j v, ys[j]? = some v → w.cell? ⟨blk, off + (r * k + j), none⟩ = some v
theorem At.keep {w w' : World} {blk off k r : Nat} {ys : List Value} (h : At w blk off k r ys) (g : w'.heap[blk]? = w.heap[blk]?) : At w' blk off k r ys := fun j v hv => by
 have := h j v hv; simpa only [World.cell?, g] using this
def Row (w : World) (blk n : Nat) : Prop := ∃ cs T, w.heap[blk]? = some (.cells cs T (0, 0)) ∧ cs.size = n
theorem Row.keep {w w' : World} {blk n : Nat} (h : Row w blk n) (g : w'.heap[blk]? = w.heap[blk]?) : Row w' blk n := by
 obtain ⟨cs, T, h1, h2⟩ := h; exact ⟨cs, T, g.trans h1, h2⟩
theorem zMK {blk off m : Nat} {vs : List Value} {W : World} (hr : Row W blk m) (hfit : off + vs.length ≤ m) (h1 : ∀ v ∈ vs, v.oneCell' = true) :
  ∃ W', (storeCells ⟨blk, off, none⟩ vs).run P W = .ok () W' ∧ KeepB blk W W' ∧ Row W' blk m ∧ (∀ j v, vs[j]? = some v → W'.cell? ⟨blk, off + j, none⟩ = some v) ∧
   ∀ q, q < off ∨ off + vs.length ≤ q → W'.cell? ⟨blk, q, none⟩ = W.cell? ⟨blk, q, none⟩ := by
 obtain ⟨cur, T, hb, hm⟩ := hr; have hst := run_storeCells_at P blk off T vs 0 cur W hb (by simpa [hm] using hfit) h1; simp only [Nat.add_zero] at hst; have hsr := setRow_heap W blk cur (cur.toList.take off ++ vs ++ cur.toList.drop (off + vs.length)).toArray T _ hb; have hlt : blk < W.heap.size := (Array.getElem?_eq_some_iff.1 hb).1
 refine ⟨_, hst, ⟨?_, by first | exact ⟨rfl, rfl, rfl, Nat.le_refl _⟩ | exact ⟨rfl, rfl, rfl, Nat.le_add_right _ _⟩, fun b _ hn => setRow_other W blk b _ hn⟩, ⟨_, T, hsr, ?_⟩, fun j v hv => ?_, fun q hq => ?_⟩
 · unfold World.setRow; simp
 · simp only [List.size_toArray, List.length_append, List.length_take, List.length_drop, Array.length_toList]; omega
 · have hj := (List.getElem?_eq_some_iff.1 hv).1; simp only [World.cell?, hsr, Option.isSome_none, Bool.false_eq_true, if_false, List.getElem?_toArray]; rw [List.getElem?_append_left (by simp; omega), List.getElem?_append_right (by simp; omega)]; have : off + j - (cur.toList.take off).length = j := by simp; omega
   rw [this]; simpa using hv
 · simp only [World.cell?, hsr, hb, Option.isSome_none, Bool.false_eq_true, if_false, List.getElem?_toArray]
   rcases hq with hq | hq
   · rw [List.getElem?_append_left (by simp; omega), List.getElem?_append_left (by simp; omega), List.getElem?_take, if_pos hq]; simp
   · by_cases hq2 : q < m
     · rw [List.getElem?_append_right (by simp; omega), List.getElem?_drop]; have : off + vs.length + (q - (cur.toList.take off ++ vs).length) = q := by simp; omega
       rw [this]; simp
     · rw [List.getElem?_eq_none (by simp; omega), Array.getElem?_eq_none (by omega)]
theorem zT5 (hE : EnvTy P E) {T : TypeId} {t : Ty} (ht : E.ty T = some t) {x y : Operand} {blk off m : Nat} {ys : List Value} (hop : o.op = .store T x y) (hx : a.eval x = .pointer (some ⟨blk, off, none⟩)) (hy : a.eval y = .agg ys.toArray)
  (hl : ys.length = t.cells) (h1 : ∀ v ∈ ys, v.oneCell' = true) (hr : Row w blk m) (hfit : off + ys.length ≤ m) :
  ∃ w', (execOp a.eval o).run P w = .ok .skip w' ∧ KeepB blk w w' ∧ Row w' blk m ∧ (∀ j v, ys[j]? = some v → w'.cell? ⟨blk, off + j, none⟩ = some v) ∧
   ∀ q, q < off ∨ off + ys.length ≤ q → w'.cell? ⟨blk, q, none⟩ = w.cell? ⟨blk, q, none⟩ := by
 obtain ⟨w', g1, g⟩ := zMK (P := P) hr hfit h1; obtain ⟨i, hi, hz, hs, _, hc1, _⟩ := (hE T _ ht).base; refine ⟨w', ?_, g⟩; simp [execOp, hop, hx, hy, Instr.storeAt, Instr.sureAddr, storeVar, zV hi, hs, hl, Value.cells, g1]
theorem zT8 (hE : EnvTy P E) {T : TypeId} {t : Ty} (hT : E.ty T = some (.slice t)) {x : Operand} {blk off m len cap : Nat} (hop : o.op = .call { callee := .builtin .clear, args := #[x], argTypes := #[T] })
  (hx : a.eval x = .slice (some ⟨blk, off, none⟩) len cap) (h0 : 0 < len) (hr : Row w blk m) (hfit : off + len * t.cells ≤ m) :
  ∃ v w', (execOp a.eval o).run P w = .ok (.value v) w' ∧ KeepB blk w w' ∧ Row w' blk m ∧ ∀ q, q < off → w'.cell? ⟨blk, q, none⟩ = w.cell? ⟨blk, q, none⟩ := by
 obtain ⟨_, el, hTu, hte⟩ := hE.ty _ _ hT; obtain ⟨i, hi, hz, hs, hb, hc1, _⟩ := hte.base; have hzc : (wval (fun _ => ⟨none, 0, 0⟩) t.zeroW).cells = (wcells (fun _ => ⟨none, 0, 0⟩) t.zeroW).toArray := zS _ _; have hzr : AnyRep t t.zero (wcells (fun _ => ⟨none, 0, 0⟩) t.zeroW) := zAT _ hte; have hzl : (wcells (fun _ => ⟨none, 0, 0⟩) t.zeroW).length = t.cells := (hzr w false (fun _ => True)).len; have hone : ∀ v ∈ (List.replicate len (wcells (fun _ => ⟨none, 0, 0⟩) t.zeroW)).flatten, v.oneCell' = true := fun v hv => by
  obtain ⟨l, hl, hv⟩ := List.mem_flatten.1 hv; rw [List.eq_of_mem_replicate hl] at hv; exact (hzr w false (fun _ => True)).one v hv
 have hfl : (List.replicate len (wcells (fun _ => ⟨none, 0, 0⟩) t.zeroW)).flatten.length = len * t.cells := by rw [zKt, hzl]
 obtain ⟨w', g1, g2, g3, g4, g5⟩ := zMK (P := P) hr (off := off) (vs := (List.replicate len (wcells (fun _ => ⟨none, 0, 0⟩) t.zeroW)).flatten) (by rw [hfl]; exact hfit) hone; obtain ⟨r, hr'⟩ : ∃ r, len = r + 1 := ⟨len - 1, by omega⟩; refine ⟨.tuple #[], w', ?_, g2, g3, fun q hq => g5 q (.inl hq)⟩; have q2' : (storeCells ⟨blk, off, none⟩ (Builtin.zeroCells (wval (fun _ => ⟨none, 0, 0⟩) t.zeroW).cells (r + 1)).toList).run P w = .ok () w' := by
  rw [hzc, zE6 _ (by omega), ← hr']; exact g1
 rw [hr'] at hx; simp [execOp, hop, resolve, hx, invoke, builtin, Builtin.clear_, run_underlying hTu, kY hi hz, q2']
theorem zTi {ops : Array Oper} {Q : Exit → Act → World → Prop} {i : Nat} {rest : List Nat} {d : Nat} (hE : EnvTy P E) {T : TypeId} {t : Ty} (ht : E.ty T = some t) (ho : ops[i]? = some o) (hg : o.guard = none) (hd : o.dst = some d) (hop : o.op = .alloc T)
  (h : ∀ w', KeepA w w' → Row w' w.heap.size t.cells → wpOps P ops Q rest (a.put (some d) (.pointer (some ⟨w.heap.size, 0, none⟩))) w') : wpOps P ops Q (i :: rest) a w := by
 obtain ⟨cs, h1, h2⟩ := zT9 (P := P) (a := a) (w := w) hE ht hop; exact zc ho hg hd h2 (h _ (zQJ w _) ⟨cs.toArray, T, heap_alloc_new w _, by simpa using h1⟩)
theorem zQo {ops : Array Oper} {Q : Exit → Act → World → Prop} {i : Nat} {rest : List Nat} {blk off m : Nat} {ys : List Value} (hE : EnvTy P E) {T : TypeId} {t : Ty} (ht : E.ty T = some t) (ho : ops[i]? = some o) (hg : o.guard = none) (hd : o.dst = none)
  {x y : Operand} (hop : o.op = .store T x y) (hx : a.eval x = .pointer (some ⟨blk, off, none⟩)) (hy : a.eval y = .agg ys.toArray) (hl : ys.length = t.cells) (h1 : ∀ v ∈ ys, v.oneCell' = true) (hr : Row w blk m) (hfit : off + ys.length ≤ m)
  (h : ∀ w', KeepB blk w w' → Row w' blk m → (∀ j v, ys[j]? = some v → w'.cell? ⟨blk, off + j, none⟩ = some v) → (∀ q, q < off ∨ off + ys.length ≤ q → w'.cell? ⟨blk, q, none⟩ = w.cell? ⟨blk, q, none⟩) → wpOps P ops Q rest a w') : wpOps P ops Q (i :: rest) a w := by
 obtain ⟨w', g1, g2, g3, g4, g5⟩ := zT5 (P := P) (o := o) hE ht hop hx hy hl h1 hr hfit; exact zUo ho hg hd g1 (h w' g2 g3 g4 g5)
theorem zTh {ops : Array Oper} {Q : Exit → Act → World → Prop} {i : Nat} {rest : List Nat} {blk off m len cap : Nat} (hE : EnvTy P E) {T : TypeId} {t : Ty} (hT : E.ty T = some (.slice t)) (ho : ops[i]? = some o) (hg : o.guard = none) (hd : o.dst = none)
  {x : Operand} (hop : o.op = .call { callee := .builtin .clear, args := #[x], argTypes := #[T] }) (hx : a.eval x = .slice (some ⟨blk, off, none⟩) len cap) (h0 : 0 < len) (hr : Row w blk m) (hfit : off + len * t.cells ≤ m)
  (h : ∀ w', KeepB blk w w' → Row w' blk m → (∀ q, q < off → w'.cell? ⟨blk, q, none⟩ = w.cell? ⟨blk, q, none⟩) → wpOps P ops Q rest a w') : wpOps P ops Q (i :: rest) a w := by
 obtain ⟨v, w', g1, g2, g3, g4⟩ := zT8 (P := P) (o := o) hE hT hop hx h0 hr hfit; exact zUp ho hg hd g1 (h w' g2 g3 g4)
end
def kept (p : Nat → Bool) (j : Nat) : List Nat := (List.range j).filter fun i => !p i
theorem zMZ (p : Nat → Bool) (j : Nat) : kept p (j + 1) = if p j = true then kept p j else kept p j ++ [j] := by
 unfold kept; rw [List.range_succ, List.filter_append]
 cases h : p j <;> simp [h]
theorem zPF (p : Nat → Bool) (j : Nat) : (kept p j).length ≤ j := by
 have := List.length_filter_le (fun i => !p i) (List.range j); rwa [List.length_range] at this
theorem zPG {p : Nat → Bool} {j : Nat} (h : ∀ i, i < j → p i = false) : kept p j = List.range j := by
 unfold kept; rw [List.filter_eq_self]; intro i hi; rw [h i (List.mem_range.1 hi)]
 rfl
theorem zRZ (b : Bool) (p : Nat → Bool) (n : Nat) : kept (fun i => match i with | 0 => b | i + 1 => p i) (n + 1) = (match b with | true => [] | false => [0]) ++ (kept p n).map (· + 1) := by
 unfold kept; rw [List.range_succ_eq_map, List.filter_cons]; have : ((List.range n).map Nat.succ).filter (fun i => !(match i with | 0 => b | i + 1 => p i)) = ((List.range n).filter fun i => !p i).map (· + 1) := by
  rw [List.filter_map]
  rfl
 rw [this]
 cases b <;> simp
theorem zUJ {p : Nat → Bool} {n r q : Nat} (h : (kept p n)[r]? = some q) : q < n := List.mem_range.1 (List.mem_filter.1 (List.mem_of_getElem? h)).1
theorem zQI (p : Nat → Bool) (n : Nat) : (kept p n).Nodup := List.Pairwise.filter _ List.nodup_range
def DelWalk (P : Program) (f : FuncId) (t : Ty) : Prop :=
 ∀ {n cap blk off g m : Nat} {e : Nat → List Value} {p : Nat → Bool} {w : World}, n ≤ lim → (∀ i, i < n → (e i).length = t.cells) → (∀ i, i < n → ∀ v ∈ e i, v.oneCell' = true) → (∀ i, i < n → At w blk off t.cells i (e i)) → blk < w.heap.size →
  0 < n → n ≤ cap → Row w blk m → off + n * t.cells ≤ m → (∀ args w, (callFunc g args).run P w = .ok (.enter g args) w) →
  (∀ i, i < n → ∀ W, KeepB blk w W → Calls P g #[.agg (e i).toArray] W fun x W' => x = .returned (.bool (p i)) ∧ KeepA W W') →
  Calls P f #[.slice (some ⟨blk, off, none⟩) n cap, .func (.func g) #[] #[]] w fun x w' => KeepB blk w w' ∧ Row w' blk m ∧ x = .returned (.slice (some ⟨blk, off, none⟩) (kept p n).length cap) ∧
   ∀ r q, (kept p n)[r]? = some q → At w' blk off t.cells r (e q)
def DelNone (P : Program) (f : FuncId) : Prop := ∀ (addr : Option Addr) (cap g : Nat) (w : World),
 Calls P f #[.slice addr 0 cap, .func (.func g) #[] #[]] w fun x w' => x = .returned (.slice addr 0 cap) ∧ KeepA w w'
theorem zML {o : List TV} {b : Bool} (h : predOut o = some b) : o = [⟨.bool, b⟩] := by
 unfold predOut at h
 split at h
 · simp only [Option.some.injEq] at h; subst h
   rfl
 · simp at h
theorem zKR {α : Type} {call : Oracle} {pred : Nat} {t : Ty} {k : List t.den → Option α} : ∀ (r acc : List t.den) (out : α), delsK call pred t k r acc = some out →
  ∃ p : Nat → Bool, (∀ i x, r[i]? = some x → call pred [⟨t, x⟩] = some [⟨.bool, p i⟩]) ∧ k (acc ++ (kept p r.length).map fun i => r.getD i t.zero) = some out
 | [], acc, out, h => ⟨fun _ => false, fun i x hx => by simp at hx, by simpa [delsK, kept] using h⟩
 | x :: r, acc, out, h => by
  simp only [delsK] at h
  cases ho : call pred [⟨t, x⟩] with
  | none => rw [ho] at h; simp at h
  | some o =>
   rw [ho] at h; simp only [Option.bind_some] at h
   cases hb : predOut o with
   | none => rw [hb] at h; simp at h
   | some b =>
    rw [hb] at h; simp only at h; obtain ⟨p, h1, h2⟩ := zKR r _ out h
    refine ⟨fun i => match i with | 0 => b | i + 1 => p i, fun i y hy => ?_, ?_⟩
    · cases i with
      | zero =>
       simp only [List.getElem?_cons_zero, Option.some.injEq] at hy; subst hy; rw [ho, zML hb]
      | succ i => exact h1 i y (by simpa using hy)
    · rw [List.length_cons, zRZ, ← h2]
      cases b <;> simp [List.map_map, Function.comp_def]
section
variable {P : Program} {E : Env} {w : World}
theorem zP9 {fd : FD} (q4 : ((initPs [] fd.sig.params 0 0).2.map (·.1)).Nodup) (q5 : fd.sig.params.length ≤ fd.fn.ntmps) (hres : fd.sig.res = [(.own, false, .bool)]) {Ts : List TypeId} {tvs : List TV} {vs : List Value}
  (h : ArgsRel P w fd.sig.params Ts tvs vs) {c : Bool} (hspec : FnSpec P E fd tvs [⟨.bool, c⟩]) : Calls P fd.id vs.toArray w fun e w' => e = .returned (.bool c) ∧ KeepA w w' := by
 obtain ⟨ρ, hi⟩ := zKN q4 q5 h; obtain ⟨hlen, hfix⟩ := h.len; refine Calls.mono (hspec w Non All ρ noCol vs hlen.symm h.kept hi) ?_; rintro e w' ⟨s', ρ', col', a', ws, rfl, hi', hfin, hws, _⟩; refine ⟨?_, hi'.mono, hi'.same, fun k hk => hi'.low k hk (fun h => h)⟩; obtain ⟨ws2, xs, us, ro, ys, vs2, _, r1, r2, r3, r4, r5, r6⟩ := zBY hfin; rw [hws] at r1; simp only [Option.some.injEq] at r1; subst r1; rw [hres] at r2
 match ws, r2 with
 | [u], r2 =>
  simp only [packRes] at r2
  split at r2
  · rename_i x1 u1 v1 x2 u2 v2 h1 h2; simp only [Option.some.injEq, Prod.mk.injEq] at h2 r2; obtain ⟨rfl, rfl, rfl⟩ := h2; obtain ⟨rfl, _, _⟩ := r2; simp only [packRes1] at h1
    split at h1
    · rename_i x us' hp
      split at h1
      · simp only [Option.some.injEq, Prod.mk.injEq] at h1; obtain ⟨rfl, _, _⟩ := h1
        cases u with
        | c cc =>
         cases cc with
         | bool b =>
          simp only [packW, Option.some.injEq, Prod.mk.injEq] at hp; obtain ⟨rfl, _⟩ := hp; simp only [List.append_nil, List.cons_append, List.nil_append, List.cons.injEq, TV.mk.injEq, heq_eq_eq, true_and] at r6; rw [r6.1]
          rfl
         | _ => simp [packW] at hp
        | _ => simp [packW] at hp
      · simp at h1
    · simp at h1
  · simp at r2
 | [], r2 => simp [packRes] at r2
 | _ :: _ :: _, r2 =>
  simp only [packRes] at r2
  split at r2
  · rename_i h2; simp at h2
  · simp at r2
theorem zTW {f : FuncId} {fn : Func} (h1 : P.funcs[f]? = some fn) (h2 : ((fn.name == "runtime.NumGoroutine") || fn.body.isNone) = false) : ∀ args w, (callFunc f args).run P w = .ok (.enter f args) w := by
 intro args w; simp only [Bool.or_eq_false_iff] at h2; have q2' : ¬ fn.name = "runtime.NumGoroutine" := by simpa using h2.1
 have q3' : ¬ fn.body = none := fun e => by rw [e] at h2; simp at h2
 simp [callFunc, h1, q2', q3']
def delCol (col : Col) (ks : List Nat) : Col := fun b => match col b with
 | some (o, c + 1) => some (o, ks.idxOf c + 1)
 | x => x
theorem zN9 {col : Col} {ks : List Nat} {b o : Nat} (h : col b = some (o, 0)) : delCol col ks b = some (o, 0) := by simp [delCol, h]
theorem zOA {col : Col} {ks : List Nat} {b o c : Nat} (h : col b = some (o, c + 1)) : delCol col ks b = some (o, ks.idxOf c + 1) := by simp [delCol, h]
theorem zOB {col : Col} {ks : List Nat} {b o c : Nat} (h : delCol col ks b = some (o, c)) : ∃ c', col b = some (o, c') := by
 unfold delCol at h
 split at h
 · rename_i o' c' hb; simp only [Option.some.injEq, Prod.mk.injEq] at h; exact ⟨c' + 1, by rw [← h.1]; exact hb⟩
 · exact ⟨c, h⟩
theorem zVA {ks : List Nat} (hn : ks.Nodup) {r q : Nat} (h : ks[r]? = some q) : ks.idxOf q = r := by
 obtain ⟨hr, e⟩ := List.getElem?_eq_some_iff.1 h; subst e; exact hn.idxOf_getElem r hr
theorem zKT {fd : FD} {f2 : FuncId} {t : Ty} {dres : Nat} (hp : fd.sig.params = [.own (.slice t), .fn f2 []]) (hr : fd.sig.res = [(.own, false, .slice t)]) (hres : fd.fn.results = #[.tmp dres]) {tm : List V} (ht : tm.getD dres .undef = .w (.c (.sl 1000))) (ys : List t.den) :
  resWs E ⟨tm, Objs.none.upd 1000 (.row .own t ys)⟩ fd.fn.results.toList = some [.c (.sl 1000)] ∧ fd.finish E ⟨tm, Objs.none.upd 1000 (.row .own t ys)⟩ = some [⟨.slice t, ys⟩] := by
 have h1 : resWs E ⟨tm, Objs.none.upd 1000 (.row .own t ys)⟩ fd.fn.results.toList = some [.c (.sl 1000)] := by
  rw [hres]; show resWs E _ [.tmp dres] = _; simp only [resWs, resW, ht, V.one]
 refine ⟨h1, ?_⟩; unfold FD.finish; rw [h1, hr, hp]; simp [packRes, packRes1, backPs, PK.back, packW, rowAs, Objs.upd, apart, Mode.le, Mode.mine]
theorem zVF {fd fd2 : FD} {pred dres : Nat} {t : Ty} {T : TypeId} (hT : TyOK P t T) (hsc : t.scalar = false) (hw : DelWalk P fd.id t) (hz : DelNone P fd.id) (hp : fd.sig.params = [.own (.slice t), .fn fd2.id []]) (hr : fd.sig.res = [(.own, false, .slice t)])
  (hres : fd.fn.results = #[.tmp dres]) (hd : dres < fd.fn.ntmps) (hn2 : 2 ≤ fd.fn.ntmps) (hkn : fd.keeps = []) (h2 : E.fd pred = some fd2) (ok2 : FdOk P fd2) (hp2 : fd2.sig.params = [.ro t]) (hr2 : fd2.sig.res = [(.own, false, .bool)]) : ExtOk P E fd (.del pred t) := by
 obtain ⟨o1, o2, o3, o4, o5⟩ := ok2; have eg : ∀ args w, (callFunc fd2.id args).run P w = .ok (.enter fd2.id args) w := by
  intro args w; have q2' : ¬ fd2.fn.name = "runtime.NumGoroutine" := by simpa using o2
  have q3' : ¬ fd2.fn.body = none := fun e => by rw [e] at o3; simp at o3
  simp [callFunc, o1, q2', q3']
 intro call tvs outs hcall hx w0 X Y0 ρ col args hal _ hin; have hinit : fd.init tvs = ⟨[.w (.c (.sl 1000)), .fn fd2.id []] ++ List.replicate (fd.fn.ntmps - 2) .undef, Objs.none.upd 1000 (.row .own t (getTV (.slice t) tvs 0))⟩ := by
  simp [FD.init, hp, initPs, PK.init, unpackW, unpackCaps, Objs.upds, idOf]
 rw [hinit] at hin; simp only [extE] at hx; generalize hxs : getTV (.slice t) tvs 0 = xs at hx hin; have hal2 : args.length = 2 := by rw [hal, hp]; rfl
 obtain ⟨a0, a1, rfl⟩ : ∃ a0 a1, args = [a0, a1] := by
  match args, hal2 with
  | [a0, a1], _ => exact ⟨a0, a1, rfl⟩
 have e0 : a0 = .slice (ρ 1000).addr (ρ 1000).len (ρ 1000).cap := by
  have := hin.tmps 0 (.w (.c (.sl 1000))) (by simp)
  rcases this with h | ⟨_, h⟩
  · simp at h
  · simpa [vval, wval, cval, Array.getD_eq_getD_getElem?, Array.getElem?_append] using h
 have e1 : a1 = .func (.func fd2.id) #[] #[] := by
  have := hin.tmps 1 (.fn fd2.id []) (by simp)
  rcases this with h | ⟨_, h⟩
  · simp at h
  · simpa [vval, Array.getD_eq_getD_getElem?, Array.getElem?_append] using h
 subst e0 e1; obtain ⟨k1, k2, k3⟩ := hin.objs 1000 (.row .own t xs) (by simp [Objs.upd]); have hlen : (ρ 1000).len = xs.length := k1; rw [hlen] at hin ⊢; generalize (ρ 1000).addr = addr at hin k2 k3 ⊢; generalize (ρ 1000).cap = cap at hin k2 ⊢
 have fin : ∀ (w' : World) (col' : Col) (ys : List t.den), w0.heap.size ≤ w'.heap.size → Like w0 w' → (∀ b, b < w0.heap.size → ¬ X b → w'.heap[b]? = w0.heap[b]?) →
   (∀ b o c, col' b = some (o, c) → ∃ c', col b = some (o, c')) → RowW w' true (fun b => col' b = some (1000, 0)) t.cells ys.length addr cap → Elems w' true (fun i b => col' b = some (1000, i + 1)) t ys addr → outs = [⟨.slice t, ys⟩] →
   ∃ s' ρ' col' a' ws, Ending.returned (.slice addr ys.length cap) = .returned (vval ρ' (resV ws)) ∧ Inv w0 X Y0 (fixOf fd [.slice addr xs.length cap, .func (.func fd2.id) #[] #[]]) s' ρ' col' a' w' ∧ fd.finish E s' = some outs ∧
    resWs E s' fd.fn.results.toList = some ws ∧ ∀ x ∈ ws, wfW s'.ob ρ' x := by
  intro w' col' ys f1 f2 f3 f4 f5 f6 f7; have hget : ((List.replicate fd.fn.ntmps V.undef).set dres (.w (.c (.sl 1000)))).getD dres .undef = .w (.c (.sl 1000)) := by
   simp [List.getD_eq_getElem?_getD, hd]
  have hsz : (⟨[Value.slice addr xs.length cap, .func (.func fd2.id) #[] #[]].toArray ++ Array.replicate (fd.fn.ntmps - [Value.slice addr xs.length cap, .func (.func fd2.id) #[] #[]].length) undef, []⟩ : Act).tmps.size = fd.fn.ntmps := by
   simp; omega
  refine ⟨⟨(List.replicate fd.fn.ntmps .undef).set dres (.w (.c (.sl 1000))), Objs.none.upd 1000 (.row .own t ys)⟩, fun _ => ⟨addr, ys.length, cap⟩, col', (Act.put ⟨[Value.slice addr xs.length cap, .func (.func fd2.id) #[] #[]].toArray ++ Array.replicate (fd.fn.ntmps - [Value.slice addr xs.length cap, .func (.func fd2.id) #[] #[]].length) undef, []⟩ (some dres) (.slice addr ys.length cap)), [.c (.sl 1000)], rfl,
   ⟨hin.defers, ?_, fun i v hi => ?_, fun o y hy => ?_, fun b o c hb => ?_, f3, f1, fun q hq => ?_, f2⟩, ?_, ?_, fun x hx => ?_⟩
  · rw [zC, hsz]; simp
  · rw [List.getElem?_set] at hi
    split at hi
    · rename_i e; subst e; rw [if_pos (by simpa using hd)] at hi; simp only [Option.some.injEq] at hi; subst hi; refine .inr ⟨by simp [wfV, wfW, wfC, Objs.upd], ?_⟩; exact (zH (by rw [hsz]; exact hd) _).trans (if_pos rfl)
    · rw [List.getElem?_replicate] at hi
      split at hi
      · simp only [Option.some.injEq] at hi; exact .inl hi.symm
      · simp at hi
  · simp only [Objs.upd] at hy
    split at hy
    · rename_i e; subst e; simp only [Option.some.injEq] at hy; subst hy; exact ⟨rfl, f5, f6⟩
    · simp [Objs.none] at hy
  · obtain ⟨c', hc'⟩ := f4 b o c hb; obtain ⟨g1, g2, g3⟩ := hin.cold b o c' hc'; refine ⟨g1, Nat.lt_of_lt_of_le g2 f1, ?_⟩; simp only [Objs.upd] at g3 ⊢
    split
    · simp
    · rename_i hne; rw [if_neg hne] at g3; exact g3
  · simp [fixOf, FD.fixed, FD.kept, hkn, hp, fixedGo, PK.isFixed] at hq
  · rw [f7]; exact (zKT (E := E) hp hr hres hget ys).2
  · exact (zKT (E := E) hp hr hres hget ys).1
  · simp only [List.mem_singleton] at hx; subst hx; simp [wfW, wfC, Objs.upd]
 unfold delE at hx
 split at hx
 · rename_i hlim; obtain ⟨p, p1, p2⟩ := zKR _ _ _ hx; simp only [List.nil_append, Option.some.injEq] at p2
   cases hxe : xs.length with
   | zero =>
    have hx0 : xs = [] := List.eq_nil_of_length_eq_zero hxe; subst hx0; refine Calls.mono (hz addr cap fd2.id w0) ?_; rintro e w' ⟨rfl, g1, g2, g3⟩; exact fin w' col [] g1 g2 (fun b hb _ => g3 b hb) (fun b o c h => ⟨c, h⟩) (k2.frame id g1 (fun b hb hok => ⟨hok, g3 b hb⟩)) (fun i y hy => by simp at hy) (by rw [← p2]; rfl)
   | succ n' =>
    have hpos : 0 < xs.length := by omega
    rw [← hxe]; obtain ⟨blk, off, haddr⟩ := zII k2 hpos; subst haddr; obtain ⟨_, hblk, hcol, hown⟩ := k2.2.2 _ rfl (.inl hpos); simp only at hblk hcol hown; obtain ⟨ccs, cT, hcells, hroom⟩ := hown rfl; have hcol' : col blk = some (1000, 0) := hcol; have hX : X blk := by
     rcases (hin.cold _ _ _ hcol').1 with h | h
     · omega
     · exact h
    obtain ⟨enc, henc⟩ := zO3 k3; obtain ⟨e, he⟩ : ∃ e : Nat → List Value, ∀ i (h : i < xs.length), e i = enc ⟨i, h⟩ := ⟨fun i => if h : i < xs.length then enc ⟨i, h⟩ else [], fun i h => by simp [h]⟩; have hrep : ∀ i (h : i < xs.length), TRep w0 true (fun b => col b = some (1000, i + 1)) t xs[i] (e i) := fun i h => by rw [he i h]; exact (henc ⟨i, h⟩).1
    have hne : ∀ i b, col b = some (1000, i + 1) → b ≠ blk := by
     rintro i b h rfl; rw [hcol'] at h; simp at h
    have hmul : xs.length * t.cells ≤ cap * t.cells := Nat.mul_le_mul_right _ k2.1
    refine Calls.mono (hw (n := xs.length) (cap := cap) (blk := blk) (off := off) (g := fd2.id) (m := ccs.size) (e := e) (p := p) (w := w0) (Nat.le_of_lt hlim) (fun i h => (hrep i h).len) (fun i h => (hrep i h).oneCell)
     (fun i h j v hv => ?_) hblk hpos k2.1 ⟨ccs, cT, hcells, rfl⟩ (by omega) eg (fun i h W hW => ?_)) ?_
    · rw [he i h] at hv; have := (henc ⟨i, h⟩).2 j v hv; simpa [cellAt] using this
    · have hspec := hcall _ _ _ _ h2 (p1 i xs[i] (List.getElem?_eq_getElem h)); have hrW : TRep W false (fun _ => True) t xs[i] (e i) := (hrep i h).frame (by simp) hW.1 (fun b hb hok => ⟨trivial, hW.2.2 b hb (hne i b hok)⟩); exact zP9 (P := P) (E := E) (w := W) o4 o5 hr2 (Ts := [T]) (vs := [.agg (e i).toArray]) (by rw [hp2]; exact .cons ⟨hT, e i, hrW, fun h => by rw [hsc] at h; simp at h, fun _ => rfl⟩ .nil) hspec
    · rintro x w' ⟨⟨g1, g2, g3⟩, ⟨cs', T', g4, g5⟩, rfl, g6⟩; have hyl : ((kept p xs.length).map fun i => xs.getD i t.zero).length = (kept p xs.length).length := by simp
      have := fin w' (delCol col (kept p xs.length)) ((kept p xs.length).map fun i => xs.getD i t.zero) g1 g2 (fun b hb hx => g3 b hb (fun e => hx (e ▸ hX))) (fun b o c h => zOB h) ?_ ?_ p2.symm
      · rw [hyl] at this; exact this
      · rw [hyl]; refine ⟨Nat.le_trans (zPF _ _) k2.1, fun h => by simp at h, fun a ha _ => ?_⟩; simp only [Option.some.injEq] at ha; subst ha; exact ⟨rfl, Nat.lt_of_lt_of_le hblk g1, zN9 hcol', fun _ => ⟨cs', T', g4, by rw [g5]; exact hroom⟩⟩
      · intro r y hy; rw [List.getElem?_map, Option.map_eq_some_iff] at hy; obtain ⟨q, hq, rfl⟩ := hy; have hql := zUJ hq; have hyq : xs.getD q t.zero = xs[q] := by
         rw [List.getD_eq_getElem?_getD, List.getElem?_eq_getElem hql]
         rfl
        rw [hyq]
        refine ⟨e q, (hrep q hql).frame id g1 (fun b hb hok => ⟨?_, g3 b hb (hne q b hok)⟩), fun j v hv => ?_⟩
        · have := zOA (ks := kept p xs.length) hok; rw [zVA (zQI p _) hq] at this; exact this
        · have := g6 r q hq j v hv; simpa [cellAt] using this
 · simp at hx
end
end Go.Ev
