/- The evaluator's soundness, operations and regions. -/
import Derived.Test.YtknhngnhjdpedaaGreatV2
import Derived.Orders
set_option linter.unusedSimpArgs false
set_option linter.unusedVariables false
namespace Go.Ev
section
variable {P : Program} {E : Env} {w0 : World} {X Y0 : Nat → Prop} {fix : List (Nat × Value)}
variable {s : St} {ρ : Locs} {col : Col} {a : Act} {w : World}
theorem zNB {k : IntKind} (z : List Int) (j : Nat) (hj : j < z.length) : (z.map (Value.int k))[j]? = some (.int k (z.getD j 0)) := by
 rw [List.getElem?_map, List.getElem?_eq_getElem hj]; simp [List.getD_eq_getElem?_getD, List.getElem?_eq_getElem hj]
theorem Elems.at {own : Bool} {okE : Nat → Nat → Prop} {t : Ty} {xs : List t.den} {addr : Option Addr} (h : Elems w own okE t xs addr) {i : Nat} (hi : i < xs.length) (d : t.den) :
  ∃ ys, TRep w own (okE i) t (xs.getD i d) ys ∧ ∀ j v, ys[j]? = some v → cellAt w addr (i * t.cells + j) = some v := by
 have e : xs[i]? = some (xs.getD i d) := by rw [List.getElem?_eq_getElem hi, List.getD_eq_getElem?_getD, List.getElem?_eq_getElem hi]; rfl
 exact h i _ e
theorem zNl (hE : EnvTy P E) (h : Inv w0 X Y0 fix s ρ col a w) {dst : Option Nat} (hf : apart dst.toList (fix.map (·.1)) = true) {d : Nat} {T : TypeId} {c : C} {e : Eff}
  (hl : loadE E s d T c = some e) (hw : wfC s.ob ρ c) (hn : (e.nw.map (·.1)).Nodup) (hfr : ∀ p ∈ e.nw, s.ob p.1 = none) :
  Does P w0 X Y0 fix s dst e a ((do pure (.value (← Instr.loadAt T (cval ρ c))) : Sem Next).run P w) := by
 have val : ∀ {v : Value}, (Instr.loadAt T (cval ρ c)).run P w = .ok v w → ((do pure (.value (← Instr.loadAt T (cval ρ c))) : Sem Next).run P w) = .ok (.value v) w := by
  intro v hv; simp [hv]
 unfold loadE at hl
 split at hl
 · rename_i o i es j; split at hl
   ·
    rename_i t m x ht hb
    split at hl
    · rename_i hts; split at hl
      ·
       rename_i y
       split at hl
       · rename_i hfit; simp only [Bool.and_eq_true, beq_iff_eq] at hfit; simp only [Option.some.injEq] at hl; subst hl; obtain ⟨b, g1, g2, g3, g4⟩ := zFs h hw hb hfit.2; simp only [wcells, List.length_singleton] at g3; have hj : j = 0 := by omega
         subst hj; obtain ⟨_, _, _, k3, _⟩ := h.box hb; refine Does.sameW h hf k3 (val ?_); rw [g1]; exact zQ hE ht hts (g4 0 _ rfl)
       · simp at hl
      ·
       rename_i cs
       split at hl
       · rename_i y hy
         split at hl
         · rename_i hfit; simp only [Bool.and_eq_true, beq_iff_eq] at hfit; simp only [Option.some.injEq] at hl; subst hl; obtain ⟨b, g1, g2, g3, g4⟩ := zFs h hw hb hfit.2; obtain ⟨_, _, _, k3, _⟩ := h.box hb; refine Does.sameW (u := .c y) h hf (k3 y (List.mem_of_getElem? hy)) (val ?_); rw [g1]; exact zQ hE ht hts (g4 j _ (by simp [wcells, hy, wval]))
         · simp at hl
       · simp at hl
      ·
       rename_i k mm xs
       split at hl
       · rename_i hfit; simp only [Bool.and_eq_true, beq_iff_eq, decide_eq_true_eq] at hfit; simp only [Option.some.injEq] at hl; subst hl; obtain ⟨b, g1, g2, g3, g4⟩ := zFs h hw hb hfit.2; simp only [wcells, List.length_map] at g3; refine Does.sameW (u := .c (.int k (xs.getD j 0))) h hf trivial (val ?_); rw [g1]; refine zQ hE ht hts (g4 j _ ?_); simp [wcells, List.getElem?_eq_getElem g3, List.getD_eq_getElem?_getD, wval, cval]
       · simp at hl
      · rename_i mm xs
        split at hl
        · rename_i hfit; simp only [Bool.and_eq_true, beq_iff_eq, decide_eq_true_eq] at hfit; simp only [Option.some.injEq] at hl; subst hl; obtain ⟨b, g1, g2, g3, g4⟩ := zFs h hw hb hfit.2; simp only [wcells, List.length_map] at g3; refine Does.sameW (u := .c (.bool (xs.getD j false))) h hf trivial (val ?_); rw [g1]; refine zQ hE ht hts (g4 j _ ?_); simp [wcells, List.getElem?_eq_getElem g3, List.getD_eq_getElem?_getD, wval, cval]
        · simp at hl
    · rename_i hts
      split at hl
      · rename_i hfit; simp only [Bool.and_eq_true, beq_iff_eq] at hfit; simp only [Option.some.injEq] at hl; subst hl; obtain ⟨⟨hfit, rfl⟩, hes⟩ := hfit; obtain ⟨b, g1, g2, g3, g4⟩ := zFs h hw hb hes; obtain ⟨_, _, _, k3, _⟩ := h.box hb; refine Does.sameW h hf k3 (val ?_); rw [g1, W.fits_agg hfit (by simpa using hts)]; exact zEA hE ht (by simpa using hts) (W.fits_len hfit k3) (fun j v hv => by rw [Nat.zero_add]; exact g4 j v hv)
      · simp at hl
   ·
    rename_i t m u xs ht hb
    split at hl
    · rename_i hes; simp only [Bool.and_eq_true, beq_iff_eq, bne_iff_ne] at hes; obtain ⟨rfl, hpos⟩ := hes; obtain ⟨k1, k2, k3⟩ := h.obj hb; obtain ⟨q1, ⟨b, off, q2⟩, q3⟩ := hw; rw [if_neg hpos] at q3; obtain ⟨q3, q4⟩ := q3; have hptr : cval ρ (.ptr o i u.cells j) = .pointer (some ⟨b, off + (i * u.cells + j), none⟩) := by simp [cval, zA2 q2]
      have cell : ∀ n v, cellAt w (ρ o).addr n = some v → w.cell? ⟨b, off + n, none⟩ = some v := by
       intro n v hv; simpa [cellAt, q2] using hv
      split at hl
      · rename_i htu; subst htu
        split at hl
        · rename_i hj; simp only [beq_iff_eq] at hj; subst hj; simp only [Option.some.injEq] at hl; subst hl; obtain ⟨ys, r1, r2⟩ := k3.at (i := i) (by omega) t.zero; obtain ⟨L, f, g⟩ := zHS (hE T _ ht) (idOf d) (zF4 h r1); rw [kC] at hn hfr ⊢; have hids : ∀ o, idOf d ≤ o → o < idOf d + (unpackC .ro t (xs.getD i t.zero) (idOf d)).2.length → ∃ p ∈ (unpackC .ro t (xs.getD i t.zero) (idOf d)).2, p.1 = o := by
           intro o h1 h2; have : o ∈ (unpackC .ro t (xs.getD i t.zero) (idOf d)).2.map (·.1) := by
            rw [kD, List.mem_range'_1]; exact ⟨h1, h2⟩
           simpa using this
          by_cases hsc : t.scalar = true
          · have hyl : ys.length = 1 := by rw [r1.len]; cases t <;> simp_all [Ty.scalar, Ty.cells]
            obtain ⟨y, rfl⟩ := List.length_eq_one_iff.1 hyl
            refine Does.loadRo h hf L hn hfr (fun p hp => g p hp) (x := y) (fun ob' ρ' hst hob => ?_) (val ?_)
            · obtain ⟨f1, f2, f3, _⟩ := f ob' ρ' (fun o h1 h2 => by obtain ⟨p, hp, rfl⟩ := hids o h1 h2; exact hob p hp); obtain ⟨v, e1, e2⟩ := f3 hsc; simp only [List.cons.injEq, and_true] at e1; subst e1; exact .inr ⟨f2, e2.symm⟩
            · rw [hptr]; exact zQ hE ht hsc (cell _ _ (r2 0 _ rfl))
          · have hsc' : t.scalar = false := by simpa using hsc
            refine Does.loadRo h hf L hn hfr (fun p hp => g p hp) (x := .agg ys.toArray) (fun ob' ρ' hst hob => ?_) (val ?_)
            · obtain ⟨f1, f2, _, f4⟩ := f ob' ρ' (fun o h1 h2 => by obtain ⟨p, hp, rfl⟩ := hids o h1 h2; exact hob p hp); exact .inr ⟨f2, (f4 hsc').symm⟩
            · rw [hptr]; refine zEA hE ht hsc' r1.len (fun n v hv => ?_); have := cell _ _ (r2 n v hv); rw [show off + (i * t.cells + 0) + n = off + (i * t.cells + n) by omega]; exact this
        · simp at hl
      · split at hl
        · rename_i k mm xs hne
          split at hl
          · rename_i htk; subst htk; simp only [Option.some.injEq] at hl; subst hl; obtain ⟨ys, r1, r2⟩ := k3.at (i := i) (by omega) ([] : List Int); simp only [TRep] at r1; obtain ⟨r0, rfl⟩ := r1; refine Does.sameW (u := .c (.int k (((xs.getD i []) : List Int).getD j 0))) h hf trivial (val ?_); rw [hptr]; refine zQ hE ht rfl (cell _ _ (r2 j _ ?_)); have hj : j < (xs.getD i ([] : List Int)).length := by rw [r0]; exact q4
            exact zNB _ j hj
          · simp at hl
        · rename_i p q xs hne
          split at hl
          · rename_i hlf; simp only at hl
            split at hl
            · rename_i y hy
              split at hl
              · rename_i hfit; simp only [Option.some.injEq] at hl; subst hl; obtain ⟨ys, r1, r2⟩ := k3.at (i := i) (by omega) ((p.zero, q.zero) : (Ty.pair p q).den); obtain ⟨L, f, g, k⟩ := zBa (idOf d) hlf (zF4 h r1); have hids : ∀ o, idOf d ≤ o → o < idOf d + (unpackC .ro (.pair p q) (xs.getD i ((p.zero, q.zero) : (Ty.pair p q).den)) (idOf d)).2.length → ∃ r ∈ (unpackC .ro (.pair p q) (xs.getD i ((p.zero, q.zero) : (Ty.pair p q).den)) (idOf d)).2, r.1 = o := by
                 intro o h1 h2; have : o ∈ (unpackC .ro (.pair p q) (xs.getD i ((p.zero, q.zero) : (Ty.pair p q).den)) (idOf d)).2.map (·.1) := by
                  rw [kD, List.mem_range'_1]; exact ⟨h1, h2⟩
                 simpa using this
                have hjl : j < ys.length := by rw [r1.len]; exact q4
                refine Does.loadRo h hf L hn hfr (fun p hp => g p hp) (x := ys[j]) (fun ob' ρ' hst hob => ?_) (val ?_)
                · have e := f ρ' (fun o h1 h2 => by obtain ⟨p, hp, rfl⟩ := hids o h1 h2; exact (hob p hp).1)
                  refine .inr ⟨?_, ?_⟩
                  · rcases k y (List.mem_of_getElem? hy) with ⟨_, _, rfl⟩ | ⟨_, rfl⟩ | ⟨o, rfl, h1, h2⟩
                    · trivial
                    · trivial
                    · obtain ⟨r, hr, rfl⟩ := hids o h1 h2; exact (hob r hr).2
                  · have e2 : ys[j]? = some (cval ρ' y) := by rw [e, List.getElem?_map, hy]; rfl
                    rw [List.getElem?_eq_getElem hjl] at e2; exact Option.some.inj e2
                · rw [hptr]; exact zQ hE ht (C.fits_wf hfit) (cell _ _ (r2 j _ (List.getElem?_eq_getElem hjl)))
              · simp at hl
            · simp at hl
          · simp at hl
        · simp at hl
    · simp at hl
   · simp at hl
 · simp at hl
theorem zJY {T : TypeId} (hT : P.underlying T = some .string) (bs : ByteArray) (k : IntKind) (n : Int) (h0 : 0 ≤ n) (h1 : n < (bs.size : Int)) (w : World) :
  (Instr.index T (.string bs) (.int k n)).run P w = .ok (.int .u8 ((bs.data.toList.getD n.toNat 0).toNat : Int)) w := by
 have hl : n.toNat < bs.size := by omega
 have e : bs[n.toNat]? = some (bs.data.toList.getD n.toNat 0) := by
  rw [getElem?_pos bs n.toNat hl]; congr 1; have hl' : n.toNat < bs.data.toList.length := by simpa using hl
  rw [List.getD_eq_getElem?_getD, List.getElem?_eq_getElem hl']
  rfl
 simp [Instr.index, asIntOf, run_underlying hT, h0, e]
theorem zNk (hE : EnvTy P E) (h : Inv w0 X Y0 fix s ρ col a w) {dst : Option Nat} (hf : apart dst.toList (fix.map (·.1)) = true) {d : Nat} (hid : s.ob (idOf d) = none)
  {T : TypeId} {k : IntKind} {m : Nat} (ht : E.ty T = some (.arr k m)) {o : Nat} (hw : wfC s.ob ρ (.ptr o 0 0 0)) {e : Eff} (he : viewE s d k m o = some e) :
  Does P w0 X Y0 fix s dst e a (((do pure (.value (← Instr.sliceAt T (cval ρ (.ptr o 0 0 0)) none none none))) : Sem Next).run P w) := by
 unfold viewE at he
 split at he
 · rename_i md k' m' xs hb
   split at he
   · rename_i hc; obtain ⟨rfl, rfl, hm⟩ := hc; simp only [Option.some.injEq] at he; subst he; obtain ⟨_, ⟨el, hT, _, hel⟩, _⟩ := hE T _ ht; obtain ⟨⟨ti, hi, hs⟩, _⟩ := hel; have hno : s.ob o ≠ none := by rw [hb]; simp
     have key : ∃ col1, Inv w0 X Y0 fix ⟨s.tm, s.ob.upds (demotes s.ob [(o, md)])⟩ ρ col1 a w ∧ s.ob.upds (demotes s.ob [(o, md)]) o = some (.box .ro (.arr k' m' xs)) := by
      by_cases hmm : md.mine = true
      · refine ⟨dropCol col o, ?_, ?_⟩
        · have := h.demoteBox hb; simpa [demotes, hmm, demote, hb, Objs.upds] using this
        · simp [demotes, hmm, demote, hb, Objs.upds, Objs.upd]
      · have : md = .ro := by cases md <;> simp_all [Mode.mine]
        subst this
        refine ⟨col, ?_, ?_⟩
        · simpa [demotes, Mode.mine, Objs.upds] using h
        · simpa [demotes, Mode.mine, Objs.upds] using hb
     obtain ⟨col1, hD, hbD⟩ := key; have hidD : s.ob.upds (demotes s.ob [(o, md)]) (idOf d) = none := by
      have : idOf d ≠ o := by intro e; rw [e] at hid; exact hno hid
      rw [zAA (fun p hp => by simp only [List.mem_singleton] at hp; subst hp; exact Ne.symm this), hid]
     obtain ⟨b, k1, k2, k3, k4, k5, k6, _⟩ := hD.obj hbD; have hlen : xs.length = m' := k3; have hptr : cval ρ (.ptr o 0 0 0) = .pointer (some ⟨b, 0, none⟩) := by simp [cval, zA2 k1]
     have hne : ¬ (m' = 0) := by omega
     have hr : ((do pure (.value (← Instr.sliceAt T (cval ρ (.ptr o 0 0 0)) none none none))) : Sem Next).run P w = .ok (.value (.slice (some ⟨b, 0, none⟩) xs.length m')) w := by
      rw [hptr]; simp [Instr.sliceAt, run_underlying hT, Instr.sureAddr, Instr.sliceBounds, zH hi, hne, zCg, hlen]
     refine ⟨_, w, .inl hr, ?_⟩
     have hput : s.put dst ⟨true, .w (.c (.sl (idOf d))), demotes s.ob [(o, md)], [(idOf d, .row .ro (.int k') xs)], [o]⟩
       = ⟨setO s.tm dst (.w (.c (.sl (idOf d)))), (s.ob.upds (demotes s.ob [(o, md)])).upd (idOf d) (.row .ro (.int k') xs)⟩ := by
      simp only [St.put, kd, Objs.upds]
     rw [hput]
     refine ⟨_, _, Does.over (obj := .row .ro (.int k') xs) hD hf hidD ⟨some ⟨b, 0, none⟩, xs.length, m'⟩ ⟨by simp [putLoc], ?_, ?_⟩ (zBu _ _ rfl)⟩
     · simp only [putLoc, if_true]; refine ⟨by omega, fun e => by simp at e, fun ad had _ => ?_⟩; simp only [Option.some.injEq] at had; subst had; exact ⟨rfl, k2, k6, fun e => by simp [Mode.mine] at e⟩
     · simp only [putLoc, if_true]; intro i x hx; refine ⟨[.int k' x], rfl, fun j v hv => ?_⟩; have hj : j = 0 := by
        have := (List.getElem?_eq_some_iff.1 hv).1; simpa using this
       subst hj; simp only [List.getElem?_cons_zero, Option.some.injEq] at hv; subst hv; simp only [cellAt, Option.bind_some, Ty.cells, Nat.mul_one, Nat.add_zero, Nat.zero_add]; refine k5 i _ ?_; simp only [wcells, List.getElem?_map, hx, Option.map_some]
   · simp at he
 · simp at he
end
end Go.Ev
namespace Go.Ev
section
variable {P : Program} {E : Env} {w0 : World} {X Y0 : Nat → Prop} {fix : List (Nat × Value)}
variable {s : St} {ρ : Locs} {col : Col} {a : Act} {w : World}
theorem zKg (h : Inv w0 X Y0 fix s ρ col a w) {o i es j : Nat} {t : Ty} {xs : List t.den} (hw : wfC s.ob ρ (.ptr o i es j)) (hb : s.ob o = some (.row .own t xs)) (hes : es = t.cells) (hpos : 1 ≤ t.cells)
  {V : Value} {vals : List Value} (hV : V.cells = vals.toArray) (hone : ∀ v ∈ vals, v.oneCell' = true) (hj : j + vals.length ≤ t.cells) {T : TypeId} {ti : TypeInfo} (hi : P.info? T = some ti) (hs : ti.size = vals.length) :
  ∃ b off w', (ρ o).addr = some ⟨b, off, none⟩ ∧ col b = some (o, 0) ∧ b < w.heap.size ∧ i < xs.length ∧ (do Instr.storeAt T (cval ρ (.ptr o i es j)) V; pure Next.skip : Sem Next).run P w = .ok Next.skip w' ∧
   (∀ k, k ≠ b → w'.heap[k]? = w.heap[k]?) ∧ w'.heap.size = w.heap.size ∧ Like w w' ∧ (∀ cs T', w.heap[b]? = some (.cells cs T' (0, 0)) → ∃ cs', w'.heap[b]? = some (.cells cs' T' (0, 0)) ∧ cs'.size = cs.size) ∧
   (∀ n v, (n < i * t.cells + j ∨ i * t.cells + j + vals.length ≤ n) → cellAt w (ρ o).addr n = some v → cellAt w' (ρ o).addr n = some v) ∧
   (∀ k v, vals[k]? = some v → cellAt w' (ρ o).addr (i * t.cells + j + k) = some v) := by
 subst hes; obtain ⟨k1, k2, k3⟩ := h.obj hb; obtain ⟨q1, ⟨b, off, q2⟩, q3⟩ := hw; rw [if_neg (by omega)] at q3; obtain ⟨q3, q4⟩ := q3; obtain ⟨_, m2, m3, m4⟩ := k2.2.2 _ q2 (.inr rfl); obtain ⟨cur, T', g1, g2⟩ := m4 rfl; simp only at m2 m3 g1 g2; have hil0 : i < xs.length := by omega
 have hil : i * t.cells + t.cells ≤ xs.length * t.cells := by
  have : (i + 1) * t.cells ≤ xs.length * t.cells := Nat.mul_le_mul_right _ (by omega); rw [Nat.add_mul] at this; omega
 have hcap : xs.length * t.cells ≤ (ρ o).cap * t.cells := Nat.mul_le_mul_right _ k2.1; have hptr : cval ρ (.ptr o i t.cells j) = .pointer (some ⟨b, off + (i * t.cells + j), none⟩) := by simp [cval, zA2 q2]
 have hr := zCk (P := P) hi hV hs g1 (off := off + (i * t.cells + j)) (by omega) hone; have hsr := setRow_heap w b cur (cur.toList.take (off + (i * t.cells + j)) ++ vals ++ cur.toList.drop (off + (i * t.cells + j) + vals.length)).toArray T' _ g1
 refine ⟨b, off, _, q2, m3, m2, hil0, by rw [hptr]; exact hr, fun k hk => setRow_other w b k _ hk, by simp, by first | exact ⟨rfl, rfl, rfl, Nat.le_refl _⟩ | exact ⟨rfl, rfl, rfl, Nat.le_add_right _ _⟩, fun cs T2 hcs => ?_, fun n v hn hv => ?_, fun k v hk => ?_⟩
 · rw [g1] at hcs; simp only [Option.some.injEq, Go.Obj.cells.injEq] at hcs; obtain ⟨rfl, rfl, _⟩ := hcs; exact ⟨_, hsr, by simp only [List.size_toArray, List.length_append, List.length_take, List.length_drop, Array.length_toList]; omega⟩
 · rw [q2] at hv ⊢; simp only [cellAt, Option.bind_some, World.cell?, g1, hsr, Option.isSome_none, Bool.false_eq_true, if_false, List.getElem?_toArray] at hv ⊢; have hv' : cur.toList[off + n]? = some v := by simpa using hv
   rw [List.append_assoc, List.getElem?_append]; simp only [List.length_take, Array.length_toList]
   rcases hn with hn | hn
   · rw [if_pos (by omega), List.getElem?_take, if_pos (by omega)]; exact hv'
   · rw [if_neg (by omega), List.getElem?_append]; rw [if_neg (by omega), List.getElem?_drop]; rw [← hv']; congr 1; omega
 · have hk' := (List.getElem?_eq_some_iff.1 hk).1; rw [q2]; simp only [cellAt, Option.bind_some, World.cell?, hsr, Option.isSome_none, Bool.false_eq_true, if_false, List.getElem?_toArray]; rw [List.append_assoc, List.getElem?_append]; simp only [List.length_take, Array.length_toList]; rw [if_neg (by omega), List.getElem?_append, if_pos (by omega), ← hk]; congr 1; omega
theorem zKh {ok ok' : Nat → Prop} {es len : Nat} {L : Loc} {w w' : World} {b off : Nat} (h : RowW w true ok es len L.addr L.cap) (ha : L.addr = some ⟨b, off, none⟩) (hsz : w'.heap.size = w.heap.size)
  (hb : ∀ cs T', w.heap[b]? = some (.cells cs T' (0, 0)) → ∃ cs', w'.heap[b]? = some (.cells cs' T' (0, 0)) ∧ cs'.size = cs.size) (hok : ok b → ok' b) : RowW w' true ok' es len L.addr L.cap := by
 refine ⟨h.1, h.2.1, fun ad had hl => ?_⟩; obtain ⟨h1, h2, h3, h4⟩ := h.2.2 ad had hl; rw [ha] at had; simp only [Option.some.injEq] at had; subst had; refine ⟨h1, by omega, hok h3, fun _ => ?_⟩; obtain ⟨cs, T, g1, g2⟩ := h4 rfl; obtain ⟨cs', g3, g4⟩ := hb cs T g1; exact ⟨cs', T, g3, by omega⟩
theorem TRep.setInt {own : Bool} {ok : Nat → Prop} : ∀ {t : Ty} {x : t.den} {ys : List Value} {j : Nat} {k : IntKind} {n : Int}, TRep w own ok t x ys → t.isInt j k = true →
  j < t.cells ∧ TRep w own ok t (t.setInt x j n) (ys.set j (.int k n))
 | .int k', x, ys, j, k, n, h, hj => by
  cases j with
  | succ j => simp [Ty.isInt] at hj
  | zero =>
   simp only [Ty.isInt, decide_eq_true_eq] at hj; subst hj; simp only [TRep] at h; subst h; exact ⟨by simp [Ty.cells], by simp [TRep, Ty.setInt]⟩
 | .pair a b, x, ys, j, k, n, h, hj => by
  simp only [TRep] at h; obtain ⟨c1, c2, rfl, h1, h2⟩ := h; simp only [Ty.isInt] at hj
  by_cases hja : j < a.cells
  · rw [if_pos hja] at hj; obtain ⟨g1, g2⟩ := TRep.setInt (n := n) h1 hj; refine ⟨by simp only [Ty.cells]; omega, ?_⟩; simp only [Ty.setInt, if_pos hja, TRep]; exact ⟨c1.set j (.int k n), c2, by rw [List.set_append_left _ _ (by rw [h1.len]; exact hja)], g2, h2⟩
  · rw [if_neg hja] at hj; obtain ⟨g1, g2⟩ := TRep.setInt (n := n) h2 hj; refine ⟨by simp only [Ty.cells]; omega, ?_⟩; simp only [Ty.setInt, if_neg hja, TRep]; exact ⟨c1, c2.set (j - a.cells) (.int k n), by rw [List.set_append_right _ _ (by rw [h1.len]; omega), h1.len], h1, g2⟩
 | .bool, _, _, _, _, _, _, hj => by simp [Ty.isInt] at hj
 | .arr _ _, _, _, _, _, _, _, hj => by simp [Ty.isInt] at hj
 | .barr _, _, _, _, _, _, _, hj => by simp [Ty.isInt] at hj
 | .slice _, _, _, _, _, _, _, hj => by simp [Ty.isInt] at hj
theorem zH2 {c i q n j k : Nat} (hq : q ≠ i) (hn : n < c) (hj : j + k ≤ c) : q * c + n < i * c + j ∨ i * c + j + k ≤ q * c + n := by
 rcases Nat.lt_or_gt_of_ne hq with h | h
 · left; have : (q + 1) * c ≤ i * c := Nat.mul_le_mul_right _ h; rw [Nat.add_mul] at this; omega
 · right; have : (i + 1) * c ≤ q * c := Nat.mul_le_mul_right _ h; rw [Nat.add_mul] at this; omega
theorem zHV (h : Inv w0 X Y0 fix s ρ col a w) {dst : Option Nat} (hf : apart dst.toList (fix.map (·.1)) = true) {o i es j : Nat} {t : Ty} {xs : List t.den} (hw : wfC s.ob ρ (.ptr o i es j))
  (hb : s.ob o = some (.row .own t xs)) (hes : es = t.cells) (hpos : 1 ≤ t.cells) {k : IntKind} {n : Int} (hj : t.isInt j k = true) {T : TypeId} {ti : TypeInfo} (hi : P.info? T = some ti) (hs : ti.size = 1) {rd : List Nat} :
  Does P w0 X Y0 fix s dst ⟨true, .undef, [(o, .row .own t (xs.set i (t.setInt (xs.getD i t.zero) j n)))], [], rd⟩ a ((do Instr.storeAt T (cval ρ (.ptr o i es j)) (.int k n); pure Next.skip : Sem Next).run P w) := by
 obtain ⟨k1, k2, k3⟩ := h.obj hb; have hil0 : i < xs.length := by
  obtain ⟨_, _, q⟩ := hw; rw [if_neg (by omega)] at q; omega
 have hxi : xs[i]? = some (xs.getD i t.zero) := by simp [List.getD_eq_getElem?_getD, List.getElem?_eq_getElem hil0]
 obtain ⟨ys, y1, y2⟩ := k3 i _ hxi; obtain ⟨hjc, y3⟩ := y1.setInt (n := n) hj; obtain ⟨b, off, w', g1, g2, g3, _, g4, g5, g6, g7, g8, g9, g10⟩ := zKg (P := P) h hw hb hes hpos (V := .int k n) (vals := [.int k n]) rfl (by simp [Value.oneCell']) hjc hi hs; refine ⟨Go.undef, w', .inr ⟨g4, rfl⟩, ρ, col, ?_⟩; have hlen : (xs.set i (t.setInt (xs.getD i t.zero) j n)).length = xs.length := by simp
 have hne : ∀ q b', col b' = some (o, q + 1) → b' ≠ b := fun q b' hb' e => by
  subst e; rw [g2] at hb'; simp at hb'
 have := h.write (dst := dst) (o := o) (b := b) (obj := .row .own t (xs.set i (t.setInt (xs.getD i t.zero) j n))) hf (by simp [hb]) g2 g5 g6 ⟨by rw [hlen]; exact k1, by rw [hlen]; exact zKh k2 g1 g6 g8 id, fun q y hy => ?_⟩ (v := .undef) (x := Go.undef) (.inl rfl) g7
 · simpa [St.put, Objs.upds] using this
 · rw [List.getElem?_set] at hy
   by_cases hqi : i = q
   · subst hqi; simp only [if_true, hil0, Option.some.injEq] at hy; subst hy; refine ⟨ys.set j (.int k n), y3.frame id (by omega) (fun b' _ hb' => ⟨hb', g5 b' (hne i b' hb')⟩), fun m v hv => ?_⟩; rw [List.getElem?_set] at hv
     by_cases hjm : j = m
     · subst hjm; rw [if_pos rfl] at hv
       split at hv
       · have := g10 0 v (by simpa using hv); simpa using this
       · simp at hv
     · rw [if_neg hjm] at hv; exact g9 _ v (by simp only [List.length_singleton]; omega) (y2 m v hv)
   · rw [if_neg hqi] at hy; obtain ⟨zs, z1, z2⟩ := k3 q y hy; refine ⟨zs, z1.frame id (by omega) (fun b' _ hb' => ⟨hb', g5 b' (hne q b' hb')⟩), fun m v hv => g9 _ v ?_ (z2 m v hv)⟩; have hm : m < t.cells := by rw [← z1.len]; exact (List.getElem?_eq_some_iff.1 hv).1
     exact zH2 (fun e => hqi e.symm) hm hjc
theorem zHU (h : Inv w0 X Y0 fix s ρ col a w) {dst : Option Nat} (hf : apart dst.toList (fix.map (·.1)) = true) {o i es : Nat} {t : Ty} {xs : List t.den} (hw : wfC s.ob ρ (.ptr o i es 0))
  (hb : s.ob o = some (.row .own t xs)) (hes : es = t.cells) (hpos : 1 ≤ t.cells) {v : W} (hv : wfW s.ob ρ v) {x : t.den} {us : List (Nat × Mode)} (hp : packW s.ob t v = some (x, us)) (hus : us.all (ownFlat s.ob) = true)
  (hdis : ∀ p ∈ us, p.1 ≠ o) {T : TypeId} {ti : TypeInfo} (hi : P.info? T = some ti) (hs : ti.size = t.cells) {rd : List Nat} :
  Does P w0 X Y0 fix s dst ⟨true, .undef, (us.map (·.1)).map (fun o => (o, .dead)) ++ [(o, .row .own t (xs.set i x))], [], rd⟩ a ((do Instr.storeAt T (cval ρ (.ptr o i es 0)) (wval ρ v); pure Next.skip : Sem Next).run P w) := by
 have hflat := zGi hus; have hrep : TRep w true (fun b => ∃ o ∈ us.map (·.1), col b = some (o, 0)) t x (wcells ρ v) := by
  refine zKn hv hp (fun o m u xs hm ho => ?_); obtain ⟨u', xs', q1, q2⟩ := hflat _ hm; rw [ho] at q1; simp only [Option.some.injEq, Obj.row.injEq] at q1; obtain ⟨rfl, rfl, _⟩ := q1; obtain ⟨k1, k2, k3⟩ := h.obj ho; refine ⟨k1, k2.frame id (Nat.le_refl _) (fun b _ hb => ⟨⟨o, List.mem_map_of_mem hm, hb⟩, rfl⟩), fun i y hy => ?_⟩; obtain ⟨ys, r1, r2⟩ := k3 i y hy; exact ⟨ys, r1.flatTo q2, r2⟩
 have hvl : (wcells ρ v).length = t.cells := hrep.len; have hne : ∀ o ∈ us.map (·.1), s.ob o ≠ none := by
  intro o ho; obtain ⟨p, hp', rfl⟩ := List.mem_map.1 ho; obtain ⟨u, xs, q, _⟩ := hflat p hp'; rw [q]; simp
 have hno : o ∉ us.map (·.1) := fun hm => by
  obtain ⟨p, hp', e⟩ := List.mem_map.1 hm; exact hdis p hp' e
 obtain ⟨k1, k2, k3⟩ := h.obj hb; obtain ⟨b, off, w', g1, g2, g3, hil0, g4, g5, g6, g7, g8, g9, g10⟩ := zKg (P := P) h hw hb hes hpos (V := wval ρ v) (vals := wcells ρ v) (zI ρ v) hrep.one (by omega) hi (by omega); have hK := h.kills (us.map (·.1)) hne; have hbK : s.ob.upds ((us.map (·.1)).map fun o => (o, Obj.dead)) o = some (.row .own t xs) := by rw [zFo hno]; exact hb
 have key := hK.write (dst := dst) (o := o) (b := b) (obj := .dead) hf (by simp only; rw [hbK]; simp) g2 g5 g6 trivial (v := .undef) (x := Go.undef) (.inl rfl) g7; have hneb : ∀ q b', col b' = some (o, q + 1) → b' ≠ b := fun q b' hb' e => by
  subst e; rw [g2] at hb'; simp at hb'
 have hneu : ∀ o' b', o' ∈ us.map (·.1) → col b' = some (o', 0) → b' ≠ b := fun o' b' ho' hb' e => by
  subst e; rw [g2] at hb'; simp only [Option.some.injEq, Prod.mk.injEq, and_true] at hb'; exact hno (hb' ▸ ho')
 have hlen : (xs.set i x).length = xs.length := by simp
 have key2 := key.adopt (id := o) (obj := .row .own t (xs.set i x)) (fun o' c => if c = 0 ∧ o' ∈ us.map (·.1) then some i else none) (by simp [Objs.upd]) (fun o' c k hk => by
   split at hk
   · rename_i hc; have : o' ≠ o := fun e => hno (e ▸ hc.2); simp only [Objs.upd, if_neg this]; exact upds_dead hc.2
   · simp at hk) ⟨by rw [hlen]; exact k1, ?_, fun q y hy => ?_⟩
 · refine ⟨Go.undef, w', .inr ⟨g4, rfl⟩, ρ, adoptCol col (fun o' c => if c = 0 ∧ o' ∈ us.map (·.1) then some i else none) o, ?_⟩; have e1 : (((s.ob.upds ((us.map (·.1)).map fun o => (o, Obj.dead))).upd o .dead).upd o (.row .own t (xs.set i x))) = s.ob.upds ((us.map (·.1)).map (fun o => (o, Obj.dead)) ++ [(o, .row .own t (xs.set i x))]) := by
    rw [kd]; funext o'; simp only [Objs.upds, Objs.upd]; split <;> rfl
   simp only [St.put, List.append_nil]; rw [← e1]; exact key2
 · rw [hlen]; refine zKh k2 g1 g6 g8 (fun hok => ?_); exact jB (c := 0) (o := o) hok (by simp [hno])
 · rw [List.getElem?_set] at hy
   by_cases hqi : i = q
   · subst hqi; simp only [if_true, hil0, Option.some.injEq] at hy; subst hy
     refine ⟨wcells ρ v, hrep.frame id (by omega) (fun b' _ hr => ?_), fun m z hz => ?_⟩
     · obtain ⟨o', ho', hc⟩ := hr; exact ⟨zAT (o := o') (c := 0) (k := i) hc (by simp [ho']), g5 b' (hneu o' b' ho' hc)⟩
     · have := g10 m z hz; simpa using this
   · rw [if_neg hqi] at hy; obtain ⟨zs, z1, z2⟩ := k3 q y hy; refine ⟨zs, z1.frame id (by omega) (fun b' _ hb' => ⟨jB hb' (by simp), g5 b' (hneb q b' hb')⟩), fun m z hz => g9 _ z ?_ (z2 m z hz)⟩; have hm : m < t.cells := by rw [← z1.len]; exact (List.getElem?_eq_some_iff.1 hz).1
     exact zH2 (fun e => hqi e.symm) hm (by omega)
end
end Go.Ev
namespace Go.Ev
section
variable {P : Program} {E : Env} {w0 : World} {X Y0 : Nat → Prop} {fix : List (Nat × Value)}
variable {s : St} {ρ : Locs} {col : Col} {a : Act} {w : World}
theorem zBP (ρ : Locs) (x : W) : ∀ v ∈ wcells ρ x, v.oneCell' = true := by
 intro v hv
 cases x with
 | c c => simp only [wcells, List.mem_singleton] at hv; subst hv; exact zNL ρ c
 | arr k m xs => simp only [wcells, List.mem_map] at hv; obtain ⟨n, _, rfl⟩ := hv; rfl
 | barr m xs => simp only [wcells, List.mem_map] at hv; obtain ⟨n, _, rfl⟩ := hv; rfl
 | st cs => simp only [wcells, List.mem_map] at hv; obtain ⟨n, _, rfl⟩ := hv; exact zNL ρ n
theorem zKe {α : Type} (l : List α) (j : Nat) (x : α) (h : j < l.length) : l.set j x = l.take j ++ [x] ++ l.drop (j + 1) := by
 rw [List.set_eq_take_append_cons_drop, if_pos h]; simp
theorem map_set {α β : Type} (f : α → β) (l : List α) (j : Nat) (x : α) (h : j < l.length) : (l.set j x).map f = (l.map f).take j ++ [f x] ++ (l.map f).drop (j + 1) := by
 rw [List.map_set, zKe _ _ _ (by simpa using h)]
theorem zLh (hE : EnvTy P E) (h : Inv w0 X Y0 fix s ρ col a w) {dst : Option Nat} (hf : apart dst.toList (fix.map (·.1)) = true) {mv : Bool} {T : TypeId} {c : C} {v : W} {e : Eff}
  (hl : storeE E s mv T c v = some e) (hw : wfC s.ob ρ c) (hv : wfW s.ob ρ v) :
  Does P w0 X Y0 fix s dst e a ((do Instr.storeAt T (cval ρ c) (wval ρ v); pure Next.skip : Sem Next).run P w) := by
 unfold storeE at hl
 split at hl
 · rename_i o i es j
   split at hl
   · rename_i t x ht hb
     split at hl
     · rename_i hfit; simp only [Bool.and_eq_true, beq_iff_eq] at hfit; obtain ⟨hfit, hes⟩ := hfit; obtain ⟨ti, hi, _, hs, _, hc1, _⟩ := (hE T _ ht).base; obtain ⟨b, g1, g2, g3, g4⟩ := zFs h hw hb hes; have k3 : wfW s.ob ρ x := by obtain ⟨_, _, _, k3, _⟩ := h.box hb; exact k3
       have hvl := W.fits_len hfit hv; have whole : ∀ (y : W), y = v → W.fits x t = true → j = 0 → ∀ e, e = (⟨true, .undef, [(o, .box .own y)], [], [o]⟩ : Eff) → Does P w0 X Y0 fix s dst e a ((do Instr.storeAt T (cval ρ (.ptr o i es j)) (wval ρ v); pure Next.skip : Sem Next).run P w) := by
        intro y hy hfx hj e he; subst hy; subst hj; subst he; have hxl := W.fits_len hfx k3; refine Does.writeBox h hf hw hb hes (wcells ρ y) hv ?_ (by omega) (zBP ρ y) (zI ρ y) hi (by rw [hs, hvl]); rw [List.take_zero, List.nil_append, Nat.zero_add, hvl, List.drop_of_length_le (by omega), List.append_nil]
       split at hl
       · rename_i y z; simp only [Option.some.injEq] at hl; subst hl; simp only [wcells, List.length_singleton] at g3; have hj : j = 0 := by omega
         subst hj; refine Does.writeBox h hf hw hb hes (wcells ρ (.c y)) hv (by simp [wcells]) (by simp [wcells]) (zBP ρ _) (zI ρ _) hi ?_; rw [hs, ← hvl]
       · rename_i y cs
         split at hl
         · rename_i z hz
           split at hl
           · simp only [Option.some.injEq] at hl; subst hl; have hj := (List.getElem?_eq_some_iff.1 hz).1; have hwf : wfW s.ob ρ (.st (cs.set j y)) := by
              intro q hq
              rcases List.mem_or_eq_of_mem_set hq with hq | rfl
              · exact k3 q hq
              · exact hv
             refine Does.writeBox (x' := .st (cs.set j y)) h hf hw hb hes (wcells ρ (.c y)) hwf ?_ (by simp [wcells]; omega) (zBP ρ _) (zI ρ _) hi (by rw [hs, ← hvl])
             · simp only [wcells, List.length_singleton]; exact map_set _ _ _ _ hj
           · simp at hl
         · simp at hl
       · rename_i k n k' m xs
         split at hl
         · rename_i hk; subst hk; simp only [Option.some.injEq] at hl; subst hl; simp only [wcells, List.length_map] at g3
           refine Does.writeBox h hf hw hb hes (wcells ρ (.c (.int k n))) ?_ ?_ (by simp [wcells]; omega) (zBP ρ _) (zI ρ _) hi (by rw [hs, ← hvl])
           · simpa [wfW] using k3
           · simp only [wcells, List.length_singleton]; exact map_set _ _ _ _ g3
         · simp at hl
       · rename_i n m xs; simp only [Option.some.injEq] at hl; subst hl; simp only [wcells, List.length_map] at g3
         refine Does.writeBox h hf hw hb hes (wcells ρ (.c (.bool n))) ?_ ?_ (by simp [wcells]; omega) (zBP ρ _) (zI ρ _) hi (by rw [hs, ← hvl])
         · simpa [wfW] using k3
         · simp only [wcells, List.length_singleton]; exact map_set _ _ _ _ g3
       · split at hl
         · rename_i hfx; simp only [Bool.and_eq_true, beq_iff_eq] at hfx; simp only [Option.some.injEq] at hl; exact whole _ rfl hfx.1 hfx.2 e hl.symm
         · simp at hl
       · split at hl
         · rename_i hfx; simp only [Bool.and_eq_true, beq_iff_eq] at hfx; simp only [Option.some.injEq] at hl; exact whole _ rfl hfx.1 hfx.2 e hl.symm
         · simp at hl
       · split at hl
         · rename_i hfx; simp only [Bool.and_eq_true, beq_iff_eq] at hfx; simp only [Option.some.injEq] at hl; exact whole _ rfl hfx.1 hfx.2 e hl.symm
         · simp at hl
       · simp at hl
     · simp at hl
   · rename_i t md u xs ht hb
     split at hl
     · rename_i hes; simp only [Bool.and_eq_true, beq_iff_eq, bne_iff_ne] at hes; obtain ⟨hes, hpos⟩ := hes; have hw' := hw; obtain ⟨q1, ⟨b, off, q2⟩, q3⟩ := hw'; rw [if_neg hpos] at q3; obtain ⟨q3, q4⟩ := q3; obtain ⟨kk1, kk2, kk3⟩ := h.obj hb; obtain ⟨ti, hi, _, hs, _, hc1, _⟩ := (hE T _ ht).base
       split at hl
       · rename_i htu; subst htu
         split at hl
         · rename_i hj; simp only [beq_iff_eq] at hj; subst hj
           split at hl
           · rename_i x us hp
             split at hl
             · rename_i hfl
               split at hl
               · rename_i hown; subst hown; simp only [Option.some.injEq] at hl; subst hl; obtain ⟨rfl, hrep⟩ := zKm (ρ := ρ) hfl hv hp; have hlen : (wcells ρ v).length = t.cells := (hrep w false (fun _ => True)).len; refine Does.writeRow h hf hfl hw hb hes hc1 (wcells ρ v) (fun cs hcs => ?_) (by simp) (by omega) (zBP ρ v) (zI ρ v) hi (by rw [hs, hlen]); have := hcs.set (by rw [← kk1]; exact q3) hrep; simpa using this
               · simp at hl
             · split at hl
               · rename_i hc; obtain ⟨_, rfl, hus, hdis⟩ := hc; simp only [List.all_eq_true, bne_iff_ne] at hdis; simp only [Option.some.injEq] at hl; subst hl; exact zHU h hf hw hb hes hc1 hv hp hus hdis hi hs
               split at hl
               · rename_i hdis; simp only [Bool.and_eq_true, List.all_eq_true, bne_iff_ne] at hdis; simp only [Option.some.injEq] at hl; subst hl; exact Does.writeRowSh h hf hdis.1 hw hb hes hc1 hv hp hdis.2 hi hs
               · simp at hl
           · simp at hl
         · simp at hl
       · split at hl
         · rename_i hown; subst hown
           split at hl
           · rename_i k m xs k' n hne
             split at hl
             · rename_i hk; simp only [Bool.and_eq_true, decide_eq_true_eq] at hk; obtain ⟨rfl, hk⟩ := hk; subst hk; simp only [Option.some.injEq] at hl; subst hl; have hsz : ti.size = 1 := hs
               refine Does.writeRow h hf rfl hw hb hes (by rw [← hes]; exact Nat.pos_of_ne_zero hpos) [.int k' n] (fun cs hcs => ?_) (by simp) ?_ (by simp [Value.oneCell']) rfl hi hsz
               · obtain ⟨e1, e2⟩ := hcs; have hil : i < xs.length := by rw [← kk1]; exact q3
                 have hx : xs[i]? = some (xs.getD i []) := by rw [List.getElem?_eq_getElem hil, List.getD_eq_getElem?_getD, List.getElem?_eq_getElem hil]; rfl
                 have hy := e2 i _ hx w false (fun _ => True); generalize xs.getD i [] = z at hy hx ⊢; simp only [TRep] at hy; obtain ⟨hz, hy⟩ := hy; have hjz : j < z.length := by rw [hz]; rw [hes] at q4; exact q4
                 have hnew : AnyRep (.arr k' m) (z.set j n) ((z.set j n).map (Value.int k')) := fun w own ok => ⟨by simpa using hz, rfl⟩
                 have key := CellsOf.set (cs := cs) ⟨e1, e2⟩ hil hnew; simp only [Ty.cells] at *; have hle : i * m + m ≤ cs.length := by
                  rw [e1]; have : (i + 1) * m ≤ xs.length * m := Nat.mul_le_mul_right _ hil; rw [Nat.add_mul] at this; omega
                 have hc : cs = cs.take (i * m) ++ (z.map (Value.int k') ++ cs.drop (i * m + m)) := by
                  rw [← hy, ← List.drop_drop, List.take_append_drop, List.take_append_drop]
                 have hlen : (cs.take (i * m)).length = i * m := by simp; omega
                 have : cs.take (i * m + j) ++ [Value.int k' n] ++ cs.drop (i * m + j + 1) = cs.take (i * m) ++ (z.set j n).map (Value.int k') ++ cs.drop (i * m + ((z.set j n).map (Value.int k')).length) := by
                  rw [← zKe _ _ _ (by omega)]
                  conv => lhs; rw [hc]
                  rw [List.set_append_right _ _ (by omega), hlen, Nat.add_sub_cancel_left, List.set_append_left _ _ (by simpa using hjz), List.map_set, List.append_assoc]; simp [hz]
                 rw [List.length_singleton, this]; exact key
               · simp only [List.length_singleton]; rw [hes] at q4; exact q4
             · simp at hl
           · rename_i a b xs k' n hne
             split at hl
             · rename_i hk; simp only [Bool.and_eq_true, decide_eq_true_eq] at hk; obtain ⟨hk, hint⟩ := hk; subst hk; simp only [Option.some.injEq] at hl; subst hl; exact zHV h hf hw hb hes (by rw [← hes]; exact Nat.pos_of_ne_zero hpos) hint hi hs
             · simp at hl
           · simp at hl
         · simp at hl
     · simp at hl
   · simp at hl
 · simp at hl
end
end Go.Ev
namespace Go.Ev
section
variable {P : Program} {E : Env} {w0 : World} {X Y0 : Nat → Prop} {fix : List (Nat × Value)}
variable {s : St} {ρ : Locs} {col : Col} {a : Act} {w : World}
theorem Does.congr {dst : Option Nat} {e : Eff} {r r' : Result Next} (h : Does P w0 X Y0 fix s dst e a r) (hr : r' = r) : Does P w0 X Y0 fix s dst e a r' := hr ▸ h
theorem zT {m : Sem Value} {v : Value} {w' : World} (h : m.run P w = .ok v w') : (do pure (.value (← m)) : Sem Next).run P w = .ok (.value v) w' := by
 simp [h]
theorem zLP : ∀ {vs : List V} {ws : List W}, all1 vs = some ws → vs = ws.map V.w
 | [], ws, h => by simp only [all1, Option.some.injEq] at h; subst h; rfl
 | v :: r, ws, h => by
  simp only [all1] at h
  split at h
  · rename_i x xs h1 h2; simp only [Option.some.injEq] at h; subst h; rw [zHx h1, zLP h2]
    rfl
  · simp at h
theorem zE4 {T e : TypeId} (hT : P.underlying T = some (.slice e)) (ty : TypeId) (addr : Option Addr) (l c : Nat) :
  (Builtin.len_ #[T] ty #[.slice addr l c]).run P w = .ok (.int .i64 l) w := by
 simp [Builtin.len_, run_underlying hT, goInt]
theorem zLn {T e : TypeId} {m : Nat} (hT : P.underlying T = some (.array m e)) (ty : TypeId) (x : Value) :
  (Builtin.len_ #[T] ty #[x]).run P w = .ok (.int .i64 m) w := by
 simp [Builtin.len_, run_underlying hT, goInt]
theorem zDm {T T' e e' : TypeId} {i : TypeInfo} (hT : P.underlying T = some (.slice e)) (hi : P.info? e = some i) (hT' : P.underlying T' = some (.slice e')) (ty : TypeId) (addr : Option Addr) (l c : Nat) (y : Value) :
  (Builtin.append_ #[T, T'] ty #[.slice addr l c, y]).run P w = (Builtin.append_ #[T, T] ty #[.slice addr l c, y]).run P w := by
 simp [Builtin.append_, run_underlying hT, run_underlying hT', zH hi]
theorem zNE {k : IntKind} (h : Inv w0 X Y0 fix s ρ col a w) : ∀ {xs : List Operand} {n m : Int}, foldInts (fun x y => if y > x then y else x) k n (xs.map s.eval) = some m →
  ((xs.map a.eval).foldlM Builtin.max2 (.int k n)).run P w = .ok (.int k m) w
 | [], n, m, he => by
  simp only [List.map_nil, foldInts, Option.some.injEq] at he; subst he; simp
 | x :: xs, n, m, he => by
  simp only [List.map_cons, foldInts] at he
  split at he
  · rename_i k' y hy
    split at he
    · rename_i hk; subst hk; simp only [List.map_cons, List.foldlM_cons, h.evalInt hy, Builtin.max2, pure_bind]; exact zNE h he
    · simp at he
  · simp at he
theorem zND {k : IntKind} (h : Inv w0 X Y0 fix s ρ col a w) : ∀ {xs : List Operand} {n m : Int}, foldInts (fun x y => if y < x then y else x) k n (xs.map s.eval) = some m →
  ((xs.map a.eval).foldlM Builtin.min2 (.int k n)).run P w = .ok (.int k m) w
 | [], n, m, he => by
  simp only [List.map_nil, foldInts, Option.some.injEq] at he; subst he; simp
 | x :: xs, n, m, he => by
  simp only [List.map_cons, foldInts] at he
  split at he
  · rename_i k' y hy
    split at he
    · rename_i hk; subst hk; simp only [List.map_cons, List.foldlM_cons, h.evalInt hy, Builtin.min2, pure_bind]; exact zND h he
    · simp at he
  · simp at he
theorem jZ {ob : Objs} {l : List Nat} (h : fresh ob l = true) : l.Nodup ∧ ∀ o ∈ l, ob o = none := by
 simp only [fresh, Bool.and_eq_true, decide_eq_true_eq, List.all_eq_true, Option.isNone_iff_eq_none] at h; exact h
theorem jK {ob : Objs} {o : Nat} {x : Obj} (h : fresh ob ([(o, x)].map (·.1)) = true) : ob o = none := (jZ h).2 o (by simp)
theorem zLf (hE : EnvTy P E) (h : Inv w0 X Y0 fix s ρ col a w) {fd : FD} {dst : Option Nat} (hf : apart dst.toList (fix.map (·.1)) = true) {d : Nat} {o : Oper} {e : Eff}
  (he : step1 E fd s d o.op = some e) (hok : e.ok = true) (hfr : fresh s.ob (e.nw.map (·.1)) = true) :
  Does P w0 X Y0 fix s dst e a ((execOp a.eval o).run P w) := by
 obtain ⟨type, op, rest⟩ : ∃ t op, o.op = op ∧ o.type = t := ⟨_, _, rfl, rfl⟩; obtain ⟨ho, hty⟩ := rest; rw [ho] at he
 cases op with
 | move x =>
  simp only [step1] at he; simp only [execOp, ho]
  split at he
  · simp at he
  · rename_i v hv; simp only [Option.some.injEq] at he; subst he; obtain ⟨g1, g2⟩ := h.eval x hv; exact Does.same h hf rfl rfl (.inr ⟨g1, g2⟩) (by simp)
 | assign x =>
  simp only [step1] at he; simp only [execOp, ho]
  split at he
  · simp only [Option.some.injEq] at he; subst he; exact Does.same (x := .pointer none) h hf rfl rfl (.inl rfl) (by first | (simp; done) | (simp; rfl) | rfl)
  · split at he
    · simp at he
    · rename_i v hv; simp only [Option.some.injEq] at he; subst he; obtain ⟨g1, g2⟩ := h.eval x hv; exact Does.same h hf rfl rfl (.inr ⟨g1, g2⟩) (by simp)
 | pick c x y =>
  simp only [step1] at he; simp only [execOp, ho]
  split at he
  · rename_i t ht; have hc := h.evalBool ht
    cases t with
    | true =>
     simp only at he
     split at he
     · simp at he
     · rename_i v hv; simp only [Option.some.injEq] at he; subst he; obtain ⟨g1, g2⟩ := h.eval x hv; exact Does.same h hf rfl rfl (.inr ⟨g1, g2⟩) (by simp [hc, asBool])
    | false =>
     simp only at he
     split at he
     · simp at he
     · rename_i v hv; simp only [Option.some.injEq] at he; subst he; obtain ⟨g1, g2⟩ := h.eval y hv; exact Does.same h hf rfl rfl (.inr ⟨g1, g2⟩) (by simp [hc, asBool])
  · simp at he
 | alloc T =>
  simp only [step1] at he; simp only [execOp, ho]
  split at he
  · rename_i t ht; simp only [Option.some.injEq] at he; subst he; obtain ⟨i, hi, hz, hs, _, hc1, _⟩ := (hE T _ ht).base
    refine Does.newBox h hf (jK hfr) (zQG t _ _) ?_ T (zT ?_)
    · have := (zAl ρ (hE T _ ht) w false (fun _ => True)).len; omega
    · rw [zLR t ρ (fun _ => ⟨none, 0, 0⟩), ← zI]; simp [Instr.alloc, kE hi hz, newVar, newRow]
  · simp at he
 | box T x =>
  simp only [step1] at he; simp only [execOp, ho]
  split at he
  · rename_i t u ht hu
    split at he
    · rename_i hfit; simp only [Option.some.injEq] at he; subst he; obtain ⟨i, hi, hz, hs, _, hc1, _⟩ := (hE T _ ht).base; obtain ⟨g1, g2⟩ := h.evalW hu; have := W.fits_len hfit g1; refine Does.newBox h hf (jK hfr) g1 (by omega) T (zT ?_); rw [g2, ← zI]; simp [Instr.box, newVar, newRow]
    · simp at he
  · simp at he
 | build T parts =>
  simp only [step1] at he; simp only [execOp, ho]
  split at he
  · rename_i t ht
    split at he
    · rename_i u hu; simp only [pure1, Option.some.injEq] at he; subst he; obtain ⟨g1, g2⟩ := zLk hE h ht hu; exact Does.sameW h hf g1 (zT g2)
    · simp at he
  · simp at he
 | buildSlice T len parts =>
  simp only [step1] at he; simp only [execOp, ho]
  split at he
  · unfold litE at he
    split at he
    · rename_i t v ht hpv
      split at he
      · rename_i u hu
        split at he
        · rename_i x us hp
          split at he
          · rename_i hc; simp only [Option.some.injEq] at he; subst he; obtain ⟨op, hpa, hop⟩ : ∃ op, parts.toList = [(0, op)] ∧ s.eval op = v := by
             match hl : parts.toList with
             | [] => rw [hl] at hpv; simp at hpv
             | [(i0, op)] =>
              rw [hl] at hpv; simp only [List.map_cons, List.map_nil, List.cons.injEq, Prod.mk.injEq, and_true] at hpv; exact ⟨op, by rw [hpv.1], hpv.2⟩
             | _ :: _ :: _ => rw [hl] at hpv; simp at hpv
            exact zJW hE h hf (jK hfr) ht hpa (by rw [hop]; exact hu) hp hc.2 hc.1
          · simp at he
        · simp at he
      · simp at he
    · rename_i t ht hpv
      split at he
      · rename_i hl; simp only [Option.some.injEq] at he; subst he; exact zId hE h hf (jK hfr) ht (by simpa using hpv) hl
      · simp at he
    · simp at he
  split at he
  · rename_i t ht
    split at he
    · rename_i xs us hx
      split at he
      · rename_i hc
        split at he
        · rename_i hfl; simp only [Option.some.injEq] at he; subst he; exact zGx hE h hf (jK hfr) ht hfl hx hc.1 hc.2
        · simp only [Option.some.injEq] at he; subst he; exact zBc hE h hf (jK hfr) ht hx hc.1 hc.2
      · simp at he
    · simp at he
  · simp at he
 | load T x =>
  simp only [step1] at he; simp only [execOp, ho]
  split at he
  · rename_i c hc; obtain ⟨g1, g2⟩ := h.evalCell hc; obtain ⟨n1, n2⟩ := jZ hfr; rw [g2]; exact zNl hE h hf he g1 n1 (fun p hp => n2 _ (List.mem_map_of_mem hp))
  · simp at he
 | store T x y =>
  simp only [step1] at he; simp only [execOp, ho]
  split at he
  · rename_i c u hc hu; obtain ⟨g1, g2⟩ := h.evalCell hc; obtain ⟨k1, k2⟩ := h.evalW hu; rw [g2, k2]; exact zLh hE h hf he g1 k1
  · simp at he
 | nilCheck x =>
  simp only [step1] at he; simp only [execOp, ho]
  split at he
  · rename_i oo i es j hv; simp only [Option.some.injEq] at he; subst he; obtain ⟨g1, g2⟩ := h.eval x (by rw [hv]; simp); rw [hv] at g1 g2; have g1' := g1; obtain ⟨_, ⟨b, off, q2⟩, _⟩ := g1'; refine Does.sameW (u := .c (.ptr oo i es j)) h hf g1 ?_; rw [g2]; simp [vval, wval, cval, zA2 q2]
  · rename_i f caps hv; simp only [Option.some.injEq] at he; subst he; obtain ⟨g1, g2⟩ := h.eval x (by rw [hv]; simp); rw [hv] at g1 g2; refine Does.same h hf rfl rfl (.inr ⟨g1, rfl⟩) ?_; rw [g2]; simp [vval]
  · simp at he
 | binOp op T x y T' =>
  simp only [step1] at he; simp only [execOp, ho]
  split at he
  · rename_i u v hu hv
    split at he
    · rename_i ok r hr; simp only [Option.some.injEq] at he; subst he; obtain ⟨g1, g2⟩ := h.evalW hu; obtain ⟨k1, k2⟩ := h.evalW hv; obtain ⟨m1, m2⟩ := zJK hE hr hok g1 k1 x y w; rw [g2, k2]; exact Does.sameW h hf m1 (zT m2)
    · simp at he
  · simp at he
 | unOp op T x =>
  simp only [step1] at he; simp only [execOp, ho]
  split at he
  · rename_i k n hu; simp only [pure1, Option.some.injEq] at he; subst he; obtain ⟨g1, g2⟩ := h.evalW hu; rw [g2]; exact Does.sameW (u := .c (.int k (k.wrap (0 - n)))) h hf trivial (zT (by simp [wval, cval, Op.unary, Op.intArith]))
  · rename_i b hu; simp only [pure1, Option.some.injEq] at he; subst he; obtain ⟨g1, g2⟩ := h.evalW hu; rw [g2]; exact Does.sameW (u := .c (.bool !b)) h hf trivial (zT (by simp [wval, cval, Op.unary]))
  · simp at he
 | convert src dd x =>
  simp only [step1] at he; simp only [execOp, ho]
  split at he
  · rename_i k1 k2 k3 n hs hd hu; simp only [pure1, Option.some.injEq] at he; subst he; obtain ⟨g1, g2⟩ := h.evalW hu; rw [g2]; refine Does.sameW (u := .c (.int k2 (k2.wrap n))) h hf trivial (zT ?_); simp [wval, cval, convert, run_underlying (hE _ _ hs).2, run_underlying (hE _ _ hd).2, Conv.intToInt]
  · simp at he
 | makeFunc fn first captured =>
  cases fn with
  | func f =>
   simp only [step1] at he; simp only [execOp, ho]
   split at he
   · rename_i ws hws
     split at he
     · rename_i hfi; simp only [Option.some.injEq] at he; subst he; have hfi : first = #[] := by simpa using hfi
       subst hfi; have key : ∀ (l : List Operand) (ws : List W), l.map s.eval = ws.map V.w → (∀ x ∈ ws, wfW s.ob ρ x) ∧ l.map a.eval = ws.map (wval ρ) := by
        intro l
        induction l with
        | nil => intro ws hl; cases ws <;> simp_all
        | cons x l ih =>
         intro ws hl
         cases ws with
         | nil => simp at hl
         | cons u ws =>
          simp only [List.map_cons, List.cons.injEq] at hl; obtain ⟨i1, i2⟩ := ih ws hl.2; obtain ⟨g1, g2⟩ := h.evalW (x := x) (u := u) (by rw [hl.1]; rfl); refine ⟨fun y hy => ?_, by simp [i2, g2]⟩
          rcases List.mem_cons.1 hy with rfl | hy
          · exact g1
          · exact i1 y hy
       obtain ⟨g1, g2⟩ := key _ _ (zLP hws); refine Does.same h hf rfl rfl (.inr ⟨(show wfV s.ob ρ (.fn f ws) from g1), rfl⟩) (zT ?_); have : captured.map a.eval = (ws.map (wval ρ)).toArray := by rw [← g2]; apply Array.toList_inj.1; simp
       simp [Instr.makeFunc, vval, this]
     · simp at he
   · simp at he
  | _ => simp [step1] at he
 | makeSlice T l c =>
  simp only [step1] at he; simp only [execOp, ho]
  split at he
  · rename_i t k n k' n' ht hl hc; simp only [Option.some.injEq] at he; subst he; simp only [Bool.and_eq_true, decide_eq_true_eq, beq_iff_eq] at hok; obtain ⟨⟨⟨⟨h0, h1⟩, rfl⟩, _⟩, _⟩ := hok; rw [h.evalInt hl, h.evalInt hc]; exact zHW hE h hf (jK hfr) ht h0 h1
  · simp at he
 | slice T x lo hi mx =>
  cases mx with
  | none =>
   simp only [step1] at he; simp only [execOp, ho]
   split at he
   · rename_i t u l hh ht hu hl hhi; obtain ⟨g1, g2⟩ := h.evalW hu; rw [g2]; have hid : s.ob (idOf d) = none := by
      refine (jZ hfr).2 _ ?_; unfold sliceE at he
      split at he
      · split at he
        · split at he
          · simp only [Option.some.injEq] at he; subst he; simp
          · simp at he
        · simp only [Option.some.injEq] at he; subst he; simp
      · simp at he
     exact zLi hE h hf hid ht g1 (h.bound hl) (h.bound hhi) he hok
   · rename_i k m oo ht hu hl hhi; obtain ⟨g1, g2⟩ := h.evalW hu; have hlo : lo = none := by
      cases lo with
      | none => rfl
      | some y => simp only [Option.map_some, bound] at hl; split at hl <;> simp at hl
     have hhi' : hi = none := by
      cases hi with
      | none => rfl
      | some y => simp only [Option.map_some, bound] at hhi; split at hhi <;> simp at hhi
     subst hlo; subst hhi'; rw [g2]; have hid : s.ob (idOf d) = none := by
      refine (jZ hfr).2 _ ?_; unfold viewE at he
      split at he
      · split at he
        · simp only [Option.some.injEq] at he; subst he; simp
        · simp at he
      · simp at he
     exact zNk hE h hf hid ht g1 he
   · simp at he
  | some m => simp [step1] at he
 | fieldAddr T x f =>
  simp only [step1] at he; simp only [execOp, ho]
  split at he
  · rename_i t oo i es j ht hu
    split at he
    · rename_i n u hn
      split at he
      · rename_i hp; simp only [Option.some.injEq] at he; subst he; obtain ⟨g1, g2⟩ := zHX hE h ht hu hn hp; exact Does.sameW h hf g1 (zT g2)
      · simp at he
    · simp at he
  · simp at he
 | field T x f =>
  simp only [step1] at he; simp only [execOp, ho]
  split at he
  · rename_i t cs ht hu
    split at he
    · rename_i n u hn
      split at he
      · rename_i c hc
        split at he
        · simp only [pure1, Option.some.injEq] at he; subst he; obtain ⟨g1, g2⟩ := zLj hE h ht hu hn hc; exact Does.sameW h hf g1 (zT g2)
        · simp at he
      · simp at he
    · simp at he
  · simp at he
 | indexAddr T x y =>
  simp only [step1] at he; simp only [execOp, ho]
  split at he
  · rename_i t oo k n ht hu hy
    split at he
    · rename_i m xs hr; simp only [Option.some.injEq] at he; subst he; simp only [Bool.and_eq_true, decide_eq_true_eq] at hok; obtain ⟨g1, g2⟩ := zDV hE h ht hu hy hr hok.1 hok.2; exact Does.sameW h hf g1 (zT g2)
    · simp at he
  · rename_i k m oo i es k' n ht hu hy
    split at he
    · rename_i hp; simp only [Option.some.injEq] at he; subst he; simp only [Bool.and_eq_true, decide_eq_true_eq] at hok; obtain ⟨_, ⟨el, q1, _, q2⟩, _⟩ := hE T _ ht; obtain ⟨g1, g2⟩ := zBb h q1 q2 rfl hu hy hp hok.1 hok.2; exact Does.sameW h hf g1 (zT g2)
    · simp at he
  · rename_i m oo i es k' n ht hu hy
    split at he
    · rename_i hp; simp only [Option.some.injEq] at he; subst he; simp only [Bool.and_eq_true, decide_eq_true_eq] at hok; obtain ⟨_, el, q1, _, q2⟩ := hE T _ ht; obtain ⟨g1, g2⟩ := zBb h q1 q2 rfl hu hy hp hok.1 hok.2; exact Does.sameW h hf g1 (zT g2)
    · simp at he
  · simp at he
 | index T x y =>
  simp only [step1] at he; simp only [execOp, ho]
  split at he
  · rename_i bs; unfold strE at he
    split at he
    · rename_i hT
      split at he
      · rename_i k n hy; simp only [Option.some.injEq] at he; subst he; simp only [Bool.and_eq_true, decide_eq_true_eq] at hok; rw [h.evalInt hy]; exact Does.sameW (u := .c (.int .u8 ((bs.data.toList.getD n.toNat 0).toNat : Int))) h hf trivial (zT (zJY (hE.str T hT) bs k n hok.1 hok.2 w))
      · simp at he
    · simp at he
  · split at he
    · rename_i k m k' m' xs k2 n ht hu hy
      split at he
      · rename_i hk; obtain ⟨rfl, rfl⟩ := hk; simp only [Option.some.injEq] at he; subst he; simp only [Bool.and_eq_true, decide_eq_true_eq] at hok; obtain ⟨_, ⟨el, q1, _, q2⟩, _⟩ := hE T _ ht; obtain ⟨g1, g2⟩ := h.evalW hu; have hl : xs.length = m' := g1; rw [g2, h.evalInt hy]; refine Does.sameW (u := .c (.int k' (xs.getD n.toNat 0))) h hf trivial (zT (zE5 q1 q2 k2 n hok.1 hok.2 ?_ w)); have := zNB (k := k') xs n.toNat (by omega); simpa [wcells, wval, cval] using this
      · simp at he
    · rename_i m m' xs k2 n ht hu hy
      split at he
      · rename_i hk; subst hk; simp only [Option.some.injEq] at he; subst he; simp only [Bool.and_eq_true, decide_eq_true_eq] at hok; obtain ⟨_, el, q1, _, q2⟩ := hE T _ ht; obtain ⟨g1, g2⟩ := h.evalW hu; have hl : xs.length = m' := g1; rw [g2, h.evalInt hy]; refine Does.sameW (u := .c (.bool (xs.getD n.toNat false))) h hf trivial (zT (zE5 q1 q2 k2 n hok.1 hok.2 ?_ w)); have hn : n.toNat < xs.length := by omega
        simp [wcells, wval, cval, List.getElem?_eq_getElem hn, List.getD_eq_getElem?_getD]
      · simp at he
    · simp at he
 | extract x i =>
  simp only [step1] at he; simp only [execOp, ho]
  split at he
  · rename_i vs hv
    split at he
    · rename_i u hu; simp only [pure1, Option.some.injEq] at he; subst he; obtain ⟨g1, g2⟩ := h.eval x (by rw [hv]; simp); rw [hv] at g1 g2; refine Does.sameW h hf (g1 u (List.mem_of_getElem? hu)) (zT ?_); rw [g2]; simp [vval, Instr.extract, hu]
    · simp at he
  · simp at he
 | call c =>
  obtain ⟨callee, args, argTypes⟩ := c
  cases callee with
  | builtin b =>
   simp only [step1] at he; simp only [execOp, ho, resolve]
   split at he
   · rename_i x T hx hT; have hxa : args = #[x] := by apply Array.toList_inj.1; simpa using hx
     have hTa : argTypes = #[T] := by apply Array.toList_inj.1; simpa using hT
     subst hxa; subst hTa
     split at he
     · rename_i t u ht hu
       split at he
       · rename_i us xs hs; simp only [Option.some.injEq] at he; subst he; obtain ⟨addr, cap, m, e1, _⟩ := h.slice hs; obtain ⟨_, el, q1, _⟩ := hE T _ ht; refine Does.sameW (u := .c (.int .i64 (xs.length : Int))) h hf trivial ?_; have := zE4 (P := P) (w := w) q1 o.type addr xs.length cap; have er := (h.evalW hu).2.trans e1; show _ = Result.ok (Next.value (.int .i64 xs.length)) w; simp [invoke, builtin, er, this]
       · simp at he
     · rename_i k m ht; simp only [pure1, Option.some.injEq] at he; subst he; obtain ⟨_, ⟨el, q1, _⟩, _⟩ := hE T _ ht; refine Does.sameW (u := .c (.int .i64 (m : Int))) h hf trivial ?_; have := zLn (P := P) (w := w) q1 o.type (a.eval x); simp [invoke, builtin, this, wval, cval]
     · simp at he
   · rename_i x y T T' hx hT; have hxa : args = #[x, y] := by apply Array.toList_inj.1; simpa using hx
     have hTa : argTypes = #[T, T'] := by apply Array.toList_inj.1; simpa using hT
     subst hxa; subst hTa
     split at he
     · rename_i t t' u v ht ht' hu hv
       split at he
       · rename_i htt; subst htt
         split at he
         · unfold appendM at he
           split at he
           · rename_i us xs vs ys h1 h2
             split at he
             · rename_i hc; simp only [Bool.and_eq_true] at hc; obtain ⟨⟨hus, hvs⟩, hdd⟩ := hc; have hdis : ∀ p ∈ us, ∀ q ∈ vs, q.1 ≠ p.1 := by
                intro p hp q hq e; have := List.all_eq_true.1 hdd p.1 (List.mem_map_of_mem hp); simp only [Bool.not_eq_true', List.contains_eq_mem, decide_eq_false_iff_not] at this; exact this (by rw [← e]; exact List.mem_map_of_mem hq)
               obtain ⟨_, el, q1, q2⟩ := hE T _ ht; obtain ⟨_, el', q1', _⟩ := hE T' _ ht'; obtain ⟨g1, g2⟩ := h.evalW hu; obtain ⟨k1, k2⟩ := h.evalW hv; obtain ⟨addr, cap, m, ea, _⟩ := h.slice h1; obtain ⟨ti, hti, _⟩ := q2.base; simp only [Option.some.injEq] at he; subst he; have := zGy (P := P) (ty := o.type) hE h hf (jK hfr) ht h1 h2 hus hvs hdis (by simpa using hok) (ok := decide (xs.length + ys.length ≤ lim)) (rd := us.map (·.1) ++ vs.map (·.1)); refine Does.congr this ?_; simp [invoke, builtin, g2, k2, ea, zDm q1 hti q1']
             · simp at he
           · simp at he
         unfold appendE at he
         split at he
         · rename_i us xs vs ys h1 h2
           split at he
           · rename_i hc; simp only [Bool.and_eq_true] at hc; obtain ⟨hus, hdd⟩ := hc; have hdis : ∀ p ∈ us, ∀ q ∈ vs, q.1 ≠ p.1 := by
              intro p hp q hq e; have := List.all_eq_true.1 hdd p.1 (List.mem_map_of_mem hp); simp only [Bool.not_eq_true', List.contains_eq_mem, decide_eq_false_iff_not] at this; exact this (by rw [← e]; exact List.mem_map_of_mem hq)
             obtain ⟨_, el, q1, q2⟩ := hE T _ ht; obtain ⟨_, el', q1', _⟩ := hE T' _ ht'; obtain ⟨g1, g2⟩ := h.evalW hu; obtain ⟨k1, k2⟩ := h.evalW hv; obtain ⟨addr, cap, m, ea, _⟩ := h.slice h1; obtain ⟨ti, hti, _⟩ := q2.base
             split at he
             · rename_i hfl; simp only [Option.some.injEq] at he; subst he; have := zKb (P := P) (ty := o.type) hE h hf (jK hfr) ht hfl g1 k1 h1 h2 hus (by simpa using hok) (ok := decide (xs.length + ys.length ≤ lim)) (rd := us.map (·.1) ++ vs.map (·.1)); refine Does.congr this ?_; simp [invoke, builtin, g2, k2, ea, zDm q1 hti q1']
             · simp only [Option.some.injEq] at he; subst he; have := zHY (P := P) (ty := o.type) hE h hf (jK hfr) ht h1 h2 hus hdis (by simpa using hok) (ok := decide (xs.length + ys.length ≤ lim)) (rd := us.map (·.1) ++ vs.map (·.1)); refine Does.congr this ?_; simp [invoke, builtin, g2, k2, ea, zDm q1 hti q1']
           · simp at he
         · simp at he
       · simp at he
     · simp at he
   · rename_i x r hx; have hxa : args = (x :: r).toArray := by apply Array.toList_inj.1; simpa using hx
     subst hxa
     split at he
     · rename_i k n hn
       split at he
       · rename_i m hm; simp only [pure1, Option.some.injEq] at he; subst he; refine Does.sameW (u := .c (.int k m)) h hf trivial ?_; have := zNE (P := P) h hm; simp [invoke, builtin, Builtin.max_, h.evalInt hn, this, wval, cval]
       · simp at he
     · simp at he
   · rename_i x r hx; have hxa : args = (x :: r).toArray := by apply Array.toList_inj.1; simpa using hx
     subst hxa
     split at he
     · rename_i k n hn
       split at he
       · rename_i m hm; simp only [pure1, Option.some.injEq] at he; subst he; refine Does.sameW (u := .c (.int k m)) h hf trivial ?_; have := zND (P := P) h hm; simp [invoke, builtin, Builtin.min_, h.evalInt hn, this, wval, cval]
       · simp at he
     · simp at he
   · simp at he
  | _ => simp [step1] at he
 | _ => simp [step1] at he
end
end Go.Ev
namespace Go.Ev
def stepO (E : Env) (fd : FD) (call : Oracle) (s : St) (d : Nat) (op : Op) : Option Eff := stepK E fd call s d op some
theorem zOE {α : Type} (E : Env) (call : Oracle) (s : St) (d : Nat) (f : FuncId) (args : List V) (k : Eff → Option α) :
  callK E call s d f args k = (callK E call s d f args some).bind k := by
 unfold callK
 split
 · split
   · split
     · split
       · cases call _ _ <;> rfl
       · rfl
     · rfl
   · rfl
 · rfl
theorem zNj {α : Type} (E : Env) (fd : FD) (call : Oracle) (s : St) (d : Nat) (op : Op) (k : Eff → Option α) :
  stepK E fd call s d op k = (stepO E fd call s d op).bind k := by
 unfold stepO; have other : ∀ {e : Option Eff}, (match e with | some e => cond e.ok (k e) none | none => none) = (match e with | some e => cond e.ok (some e) none | none => none).bind k := by
  intro e
  cases e with
  | none => rfl
  | some e => cases h : e.ok <;> simp [h]
 unfold stepK
 split
 · split
   · exact zOE ..
   · rfl
 · exact other
def opO (E : Env) (fd : FD) (call : Oracle) (s : St) (o : Oper) : Option Eff :=
 (stepO E fd call s (o.dst.getD 0) o.op).bind fun e => if fresh s.ob (e.nw.map (·.1)) then some e else none
theorem zQU {α : Type} (E : Env) (fd : FD) (call : Oracle) (o : Oper) (s : St) (l : Log) (k : St → Log → Option α) :
  opK E fd call o s l k = (opO E fd call s o).bind fun e => k (s.put o.dst e) ((e.rd, e.wr.map (·.1) ++ e.nw.map (·.1)) :: l) := by
 unfold opK opO; rw [zNj]
 cases stepO E fd call s (o.dst.getD 0) o.op with
 | none => rfl
 | some e =>
  simp only [Option.bind_some]; split <;> rfl
def wants (ops : Array Oper) (s : St) (o : Oper) : Option Bool :=
 match o.guard with
 | none => some true
 | some (j, want) => match (ops[j]?).bind (·.dst) with
  | some t => match (s.tm.getD t .undef).guard? with
   | some none => some false
   | some (some b) => some (b == want)
   | none => none
  | none => none
theorem zI1 {v : V} {b : Bool} (h : v.guard? = some (some b)) : v = .w (.c (.bool b)) := by
 unfold V.guard? at h
 split at h
 · simp only [Option.some.injEq] at h; rw [h]
 · simp at h
 · simp at h
theorem zN3 {v : V} (h : v.guard? = some none) : v = .tup [] := by
 unfold V.guard? at h
 split at h
 · simp at h
 · rfl
 · simp at h
theorem zM8 {s : St} {t : Nat} {b : Bool} (h : (s.tm.getD t .undef).guard? = some (some b)) : s.lit t b = s := by
 have e := zI1 h; unfold St.lit; have : s.tm.set t (.w (.c (.bool b))) = s.tm := by
  apply List.ext_getElem?; intro i; rw [List.getElem?_set]
  split
  · rename_i hti; subst hti
    split
    · rename_i hl; rw [List.getD_eq_getElem?_getD, List.getElem?_eq_getElem hl] at e; simp only [Option.getD_some] at e; rw [List.getElem?_eq_getElem hl, e]
    · rename_i hl; rw [List.getElem?_eq_none (by omega)]
  · rfl
 rw [this]
def outO (E : Env) (fd : FD) (call : Oracle) (ops : Array Oper) (s : St) (o : Oper) : Option (Option Eff) :=
 if apart o.dst.toList (fd.fixed) then
  match wants ops s o with
  | some true => (opO E fd call s o).map some
  | some false => some none
  | none => none
 else none
def putO (s : St) (o : Oper) : Option Eff → St
 | some e => s.put o.dst e
 | none => s.skip o.dst
def logO : Option Eff → List Nat × List Nat
 | some e => (e.rd, e.wr.map (·.1) ++ e.nw.map (·.1))
 | none => ([], [])
theorem zPB {α : Type} (E : Env) (fd : FD) (call : Oracle) (ops : Array Oper) (o : Oper) (r : List Oper) (s : St) (l : Log) (k : St → Log → Option α) :
  opsK E fd call ops (o :: r) s l k = (outO E fd call ops s o).bind fun x => opsK E fd call ops r (putO s o x) (logO x :: l) k := by
 have run : ∀ (s : St), (opK E fd call o s l fun s l => opsK E fd call ops r s l k) = ((opO E fd call s o).map some).bind fun x => opsK E fd call ops r (putO s o x) (logO x :: l) k := by
  intro s; rw [zQU]
  cases opO E fd call s o <;> rfl
 by_cases hap : apart o.dst.toList (fd.fixed) = true
 case neg => simp only [opsK, outO, if_neg hap, Option.bind_none]
 cases hg : o.guard with
 | none =>
  simp only [opsK, outO, wants, hg, if_pos hap]; exact run s
 | some g =>
  obtain ⟨j, want⟩ := g; simp only [opsK, outO, wants, hg, if_pos hap]
  cases ht : (ops[j]?).bind (·.dst) with
  | none => rfl
  | some t =>
   simp only
   cases hb : (s.tm.getD t .undef).guard? with
   | none => rfl
   | some b =>
    cases b with
    | none => rfl
    | some b =>
     cases want <;> cases b <;> simp only [cond, zM8 hb]
     · exact run s
     · rfl
     · rfl
     · exact run s
inductive Trace (E : Env) (fd : FD) (call : Oracle) (ops : Array Oper) : List Oper → St → List (Option Eff) → St → Prop where
 | nil (s : St) : Trace E fd call ops [] s [] s
 | cons {o : Oper} {r : List Oper} {s s' : St} {x : Option Eff} {xs : List (Option Eff)} (h : outO E fd call ops s o = some x) (t : Trace E fd call ops r (putO s o x) xs s') : Trace E fd call ops (o :: r) s (x :: xs) s'
theorem zBQ {α : Type} {E : Env} {fd : FD} {call : Oracle} {ops : Array Oper} {k : St → Log → Option α} {res : α} : ∀ (r : List Oper) (s : St) (l : Log), opsK E fd call ops r s l k = some res →
  ∃ xs s', Trace E fd call ops r s xs s' ∧ k s' ((xs.map logO).reverse ++ l) = some res
 | [], s, l, h => ⟨[], s, .nil s, h⟩
 | o :: r, s, l, h => by
  rw [zPB] at h
  cases hx : outO E fd call ops s o with
  | none => rw [hx] at h; simp at h
  | some x =>
   rw [hx] at h; simp only [Option.bind_some] at h; obtain ⟨xs, s', h1, h2⟩ := zBQ r _ _ h; exact ⟨x :: xs, s', .cons hx h1, by simpa using h2⟩
end Go.Ev
namespace Go.Ev
theorem upds_not {f : Objs} {id : Nat} : ∀ {l : List (Nat × Obj)}, id ∉ l.map (·.1) → f.upds l id = f id
 | [], _ => rfl
 | (o, x) :: r, h => by
  simp only [List.map_cons, List.mem_cons, not_or] at h; simp only [Objs.upds]; rw [upds_not h.2]; simp [Objs.upd, h.1]
theorem zFq {f g : Objs} {id : Nat} (h : f id = g id) : ∀ {l : List (Nat × Obj)}, f.upds l id = g.upds l id
 | [] => h
 | (o, x) :: r => by
  simp only [Objs.upds]; refine zFq ?_; simp only [Objs.upd]
  split
  · rfl
  · exact h
theorem zMs {f g : Objs} {id : Nat} : ∀ {l : List (Nat × Obj)}, id ∈ l.map (·.1) → f.upds l id = g.upds l id
 | (o, x) :: r, h => by
  simp only [Objs.upds]
  by_cases hr : id ∈ r.map (·.1)
  · exact zMs hr
  · simp only [List.map_cons, List.mem_cons] at h; rw [upds_not hr, upds_not hr]; simp [Objs.upd, h.resolve_right hr]
theorem zKV {f : Objs} {id : Nat} (h : f id ≠ none) : ∀ {l : List (Nat × Obj)}, f.upds l id ≠ none
 | [] => h
 | (o, x) :: r => by
  simp only [Objs.upds]; refine zKV ?_; simp only [Objs.upd]
  split
  · simp
  · exact h
theorem zFp {f : Objs} {id : Nat} : ∀ {l : List (Nat × Obj)}, id ∈ l.map (·.1) → f.upds l id ≠ none
 | (o, x) :: r, h => by
  simp only [Objs.upds]
  by_cases hr : id ∈ r.map (·.1)
  · exact zFp hr
  · simp only [List.map_cons, List.mem_cons] at h; rw [upds_not hr]; simp [Objs.upd, h.resolve_right hr]
theorem zOi {f : Objs} {l m : List (Nat × Obj)} (h : ∀ id, id ∈ l.map (·.1) → id ∉ m.map (·.1)) : (f.upds l).upds m = (f.upds m).upds l := by
 funext id
 by_cases h1 : id ∈ l.map (·.1)
 · rw [upds_not (h id h1)]; exact zMs h1
 · rw [upds_not h1]; exact zFq (upds_not h1)
theorem zOw {s : St} {o : Oper} {x : Option Eff} {t : Nat} (h : o.dst ≠ some t) : (putO s o x).tm[t]? = s.tm[t]? := by
 cases x <;> cases hd : o.dst <;> simp only [putO, St.put, St.skip, setO, hd]
 · rename_i d; have : d ≠ t := by intro e; exact h (by rw [hd, e])
   rw [List.getElem?_set_ne this]
 · rename_i d; have : d ≠ t := by intro e; exact h (by rw [hd, e])
   rw [List.getElem?_set_ne this]
theorem zOx {s : St} {o : Oper} {x : Option Eff} {id : Nat} (h : id ∉ (logO x).2) : (putO s o x).ob id = s.ob id := by
 cases x with
 | none => rfl
 | some e => exact upds_not (by simpa [logO] using h)
theorem zNr {l l' : List V} {dst : Option Nat} {v : V} {t : Nat} (h : l[t]? = l'[t]?) : (setO l dst v)[t]? = (setO l' dst v)[t]? := by
 cases dst with
 | none => exact h
 | some d =>
  simp only [setO, List.getElem?_set]
  split
  · rename_i hd; subst hd
    by_cases h1 : d < l.length
    · have h2 : d < l'.length := by
       rw [List.getElem?_eq_getElem h1] at h; exact (List.getElem?_eq_some_iff.1 h.symm).1
      rw [if_pos h1, if_pos h2]
    · have h2 : ¬ d < l'.length := by
       intro h2; rw [List.getElem?_eq_getElem h2] at h; exact h1 (List.getElem?_eq_some_iff.1 h).1
      rw [if_neg h1, if_neg h2]
  · exact h
theorem zJd {s s' : St} {o : Oper} {x : Option Eff} {t : Nat} (h : s.tm[t]? = s'.tm[t]?) : (putO s o x).tm[t]? = (putO s' o x).tm[t]? := by
 cases x <;> exact zNr h
theorem zJe {s s' : St} {o : Oper} {x : Option Eff} {id : Nat} (h : s.ob id = s'.ob id) : (putO s o x).ob id = (putO s' o x).ob id := by
 cases x with
 | none => exact h
 | some e => exact zFq h
theorem zE3 {l : List V} {d d' : Option Nat} {v v' : V} (h : ∀ t, d = some t → d' ≠ some t) : setO (setO l d v) d' v' = setO (setO l d' v') d v := by
 cases d with
 | none => rfl
 | some t =>
  cases d' with
  | none => rfl
  | some t' =>
   have : t ≠ t' := by intro e; exact h t rfl (by rw [e])
   simp only [setO, List.set_comm _ _ this]
theorem zOy {s : St} {o p : Oper} {x y : Option Eff} (h : ∀ t, o.dst = some t → p.dst ≠ some t) (h2 : ∀ id, id ∈ (logO x).2 → id ∉ (logO y).2) :
  putO (putO s o x) p y = putO (putO s p y) o x := by
 cases x with
 | none => cases y with
  | none => simp only [putO, St.skip, zE3 h]
  | some e => simp only [putO, St.skip, St.put, zE3 h]
 | some e => cases y with
  | none => simp only [putO, St.skip, St.put, zE3 h]
  | some e' =>
   simp only [putO, St.put, zE3 h]; rw [zOi]; intro id h3 h4; exact h2 id (by simpa [logO] using h3) (by simpa [logO] using h4)
def pre (ops : Array Oper) (xs : List (Option Eff)) (s0 : St) (A : Nat → Bool) : Nat → St
 | 0 => s0
 | m + 1 => match A m, ops[m]?, xs[m]? with
  | true, some o, some x => putO (pre ops xs s0 A m) o x
  | _, _, _ => pre ops xs s0 A m
section
variable {E : Env} {fd : FD} {call : Oracle} {ops : Array Oper} {xs : List (Option Eff)} {s0 : St}
theorem zRL {A B : Nat → Bool} {t : Nat} : ∀ (m : Nat), (∀ j < m, A j ≠ B j → ∀ o, ops[j]? = some o → o.dst ≠ some t) → (pre ops xs s0 A m).tm[t]? = (pre ops xs s0 B m).tm[t]?
 | 0, _ => rfl
 | m + 1, h => by
  have ih := zRL m (fun j hj => h j (by omega)); simp only [pre]
  cases ho : ops[m]? with
  | none => cases A m <;> cases B m <;> exact ih
  | some o =>
   cases hx : xs[m]? with
   | none => cases A m <;> cases B m <;> exact ih
   | some x =>
    cases hA : A m <;> cases hB : B m <;> simp only
    · exact ih
    · rw [zOw (h m (by omega) (by rw [hA, hB]; simp) o ho)]; exact ih
    · rw [zOw (h m (by omega) (by rw [hA, hB]; simp) o ho)]; exact ih
    · exact zJd ih
theorem zRM {A B : Nat → Bool} {id : Nat} : ∀ (m : Nat), (∀ j < m, A j ≠ B j → ∀ x, xs[j]? = some x → id ∉ (logO x).2) → (pre ops xs s0 A m).ob id = (pre ops xs s0 B m).ob id
 | 0, _ => rfl
 | m + 1, h => by
  have ih := zRM m (fun j hj => h j (by omega)); simp only [pre]
  cases ho : ops[m]? with
  | none => cases A m <;> cases B m <;> exact ih
  | some o =>
   cases hx : xs[m]? with
   | none => cases A m <;> cases B m <;> exact ih
   | some x =>
    cases hA : A m <;> cases hB : B m <;> simp only
    · exact ih
    · rw [zOx (h m (by omega) (by rw [hA, hB]; simp) x hx)]; exact ih
    · rw [zOx (h m (by omega) (by rw [hA, hB]; simp) x hx)]; exact ih
    · exact zJe ih
theorem zG8 {A B : Nat → Bool} : ∀ (m : Nat), (∀ j < m, A j = B j) → pre ops xs s0 A m = pre ops xs s0 B m
 | 0, _ => rfl
 | m + 1, h => by simp only [pre, zG8 m (fun j hj => h j (by omega)), h m (by omega)]
theorem zJg {A : Nat → Bool} {i : Nat} : ∀ (m : Nat), i ≤ m → (∀ j, i ≤ j → A j = false) → pre ops xs s0 A m = pre ops xs s0 A i
 | 0, h, _ => by rw [Nat.le_zero.1 h]
 | m + 1, h, hA => by
  by_cases e : i = m + 1
  · rw [e]
  · simp only [pre, hA m (by omega)]; exact zJg m (by omega) hA
def Indep (ops : Array Oper) (xs : List (Option Eff)) (i j : Nat) : Prop :=
 ∀ o p x y, ops[i]? = some o → ops[j]? = some p → xs[i]? = some x → xs[j]? = some y →
  (∀ t, o.dst = some t → t ∉ usesOf ops p ∧ p.dst ≠ some t) ∧ (∀ t, p.dst = some t → t ∉ usesOf ops o) ∧
  (∀ id ∈ (logO x).2, id ∉ (logO y).1 ∧ id ∉ (logO y).2) ∧ (∀ id ∈ (logO y).2, id ∉ (logO x).1)
theorem zIv {A B : Nat → Bool} {i : Nat} {o : Oper} {x : Option Eff} (ho : ops[i]? = some o) (hx : xs[i]? = some x) (hA : A i = false) (hB : B i = true) (hAB : ∀ j, j ≠ i → B j = A j)
  (hI : ∀ j, i < j → A j = true → Indep ops xs i j) : ∀ (m : Nat), i < m → pre ops xs s0 B m = putO (pre ops xs s0 A m) o x
 | 0, h => by omega
 | m + 1, h => by
  by_cases e : i = m
  · subst e; simp only [pre, hA, hB, ho, hx]; rw [zG8 i (fun j hj => hAB j (by omega))]
  · have ih := zIv ho hx hA hB hAB hI m (by omega); simp only [pre, hAB m (by omega)]
    cases hm : A m with
    | false => simpa using ih
    | true =>
     cases hp : ops[m]? with
     | none => simpa using ih
     | some p =>
      cases hy : xs[m]? with
      | none => simpa using ih
      | some y =>
       simp only [ih]; obtain ⟨h1, h2, h3, h4⟩ := hI m (by omega) hm o p x y ho hp hx hy; exact zOy (fun t ht => (h1 t ht).2) (fun id hid => (h3 id hid).2)
theorem zOn {r : List Oper} {s s' : St} {zs : List (Option Eff)} (t : Trace E fd call ops r s zs s') : ∀ (po : List Oper) (px : List (Option Eff)), ops.toList = po ++ r → po.length = px.length →
  s = pre ops (px ++ zs) s0 (fun _ => true) po.length →
  (px ++ zs).length = ops.size ∧ s' = pre ops (px ++ zs) s0 (fun _ => true) ops.size ∧
   ∀ m, po.length ≤ m → m < ops.size → ∃ o x, ops[m]? = some o ∧ (px ++ zs)[m]? = some x ∧ outO E fd call ops (pre ops (px ++ zs) s0 (fun _ => true) m) o = some x := by
 induction t with
 | nil s =>
  intro po px hr hl hs; have h1 : ops.size = po.length := by simpa using congrArg List.length hr
  refine ⟨by simp; omega, by rw [h1]; exact hs, fun m h2 h3 => by omega⟩
 | @cons o r s s' x xs h t ih =>
  intro po px hr hl hs; have hsz : ops.size = po.length + (r.length + 1) := by simpa using congrArg List.length hr
  have ho : ops[po.length]? = some o := by
   rw [← Array.getElem?_toList, hr]; simp
  have hx : (px ++ x :: xs)[po.length]? = some x := by rw [hl]; simp
  have e : px ++ x :: xs = (px ++ [x]) ++ xs := by simp
  have := ih (po ++ [o]) (px ++ [x]) (by simp [hr]) (by simp [hl]) (by
   rw [← e, List.length_append, List.length_singleton]; simp only [pre, ho, hx]; rw [hs])
  rw [← e] at this; obtain ⟨g1, g2, g3⟩ := this; refine ⟨g1, g2, fun m h2 h3 => ?_⟩
  by_cases hm : m = po.length
  · subst hm; exact ⟨o, x, ho, hx, by rw [← hs]; exact h⟩
  · exact g3 m (by simp; omega) h3
end
end Go.Ev
namespace Go.Ev
section
variable {E : Env} {fd : FD} {call : Oracle} {ops : Array Oper} {xs : List (Option Eff)} {s0 : St}
theorem zBV {l m : List Nat} (h : apart l m = true) : ∀ x ∈ l, x ∉ m := by
 intro x hx; simp only [apart, List.all_eq_true, Bool.not_eq_true', List.contains_eq_mem, decide_eq_false_iff_not] at h; exact h x hx
theorem zN1 {o p : Oper} {lo lp : List Nat × List Nat} (h : indep ops o p lo lp = true) :
  (∀ t, o.dst = some t → t ∉ usesOf ops p ∧ p.dst ≠ some t) ∧ (∀ t, p.dst = some t → t ∉ usesOf ops o) ∧ (∀ id ∈ lo.2, id ∉ lp.1 ∧ id ∉ lp.2) ∧ (∀ id ∈ lp.2, id ∉ lo.1) := by
 simp only [indep, Bool.and_eq_true] at h; obtain ⟨⟨⟨h1, h2⟩, h3⟩, h4⟩ := h
 refine ⟨fun t ht => ?_, fun t ht => ?_, fun id hid => ?_, fun id hid => zBV h4 id hid⟩
 · have := zBV h1 t (by simp [ht]); simp only [List.mem_append, not_or] at this; refine ⟨this.1, fun e => this.2 (by simp [e])⟩
 · exact zBV h2 t (by simp [ht])
 · have := zBV h3 id hid; simp only [List.mem_append, not_or] at this; exact this
theorem zGo {anc : List (List Nat)} {j : Nat} : ∀ (m : Nat), drawAll ops anc (xs.map logO) j m = true → ∀ i < m, i ∈ anc.getD j [] ∨ Indep ops xs i j
 | 0, _, i, h => by omega
 | m + 1, h, i, hi => by
  simp only [drawAll, Bool.and_eq_true, Bool.or_eq_true, List.contains_eq_mem, decide_eq_true_eq] at h
  by_cases e : i = m
  · subst e
    rcases h.1 with h1 | h1
    · exact .inl h1
    · right; intro o p x y ho hp hx hy; simp only [ho, hp, List.getElem?_map, hx, hy, Option.map_some] at h1; exact zN1 h1
  · exact zGo m h.2 i (by omega)
theorem zHz {anc : List (List Nat)} : ∀ (n : Nat), drawOk ops anc (xs.map logO) n = true → ∀ j < n, ∀ i < j, i ∈ anc.getD j [] ∨ Indep ops xs i j
 | 0, _, j, h => by omega
 | n + 1, h, j, hj => by
  simp only [drawOk, Bool.and_eq_true] at h
  by_cases e : j = n
  · subst e; exact zGo j h.1
  · exact zHz n h.2 j (by omega)
theorem zKH {S : Nat → Bool} (hS : ∀ j o, S j = true → ops[j]? = some o → ∀ k ∈ plainOn o, S k = true) : ∀ (r po : List Oper) (acc : List (List Nat)), ops.toList = po ++ r → acc.length = po.length →
  (∀ j, S j = true → ∀ i ∈ acc.getD j [], S i = true) → ∀ j, S j = true → ∀ i ∈ (ancGo r acc).getD j [], S i = true
 | [], po, acc, _, _, h => h
 | o :: r, po, acc, hr, hl, h => by
  simp only [ancGo]; refine zKH hS r (po ++ [o]) _ (by simp [hr]) (by simp [hl]) (fun j hj i hi => ?_); have ho : ops[po.length]? = some o := by
   rw [← Array.getElem?_toList, hr]; simp
  rw [List.getD_eq_getElem?_getD, List.getElem?_append] at hi
  split at hi
  · exact h j hj i (by rwa [List.getD_eq_getElem?_getD])
  · by_cases e : j = acc.length
    · subst e; simp only [Nat.sub_self, List.getElem?_cons_zero, Option.getD_some, List.mem_append, List.mem_flatMap] at hi; rw [hl] at hj
      rcases hi with hi | ⟨k, hk, hi⟩
      · exact hS _ o hj ho i hi
      · exact h k (hS _ o hj ho k hk) i hi
    · rw [List.getElem?_eq_none (by simp; omega)] at hi; simp at hi
theorem zLN : ∀ (r : List Oper) (n : Nat), backOk r n = true → ∀ k o, r[k]? = some o → ∀ j ∈ plainOn o, j < n + k
 | [], n, _, k, o, h => by simp at h
 | p :: r, n, hb, k, o, h => by
  simp only [backOk, Bool.and_eq_true, List.all_eq_true, decide_eq_true_eq] at hb
  cases k with
  | zero =>
   simp only [List.getElem?_cons_zero, Option.some.injEq] at h; subst h; exact hb.1
  | succ k =>
   intro j hj; have := zLN r (n + 1) hb.2 k o (by simpa using h) j hj; omega
theorem zTB {s s' : St} {x : Operand} (h : ∀ t, x = .tmp t → s'.tm[t]? = s.tm[t]?) : s'.eval x = s.eval x := by
 cases x with
 | tmp t => simp only [St.eval, List.getD_eq_getElem?_getD, h t rfl]
 | _ => rfl
theorem zCl {ob ob' : Objs} {o : Nat} (h : ob' o = ob o) (t : Ty) : rowAs ob' o t = rowAs ob o t := by simp only [rowAs, h]
theorem zK5 {ob ob' : Objs} {o : Nat} (h : ob' o = ob o) : demote ob' o = demote ob o := by simp only [demote, h]
theorem kz {ob ob' : Objs} {us : List (Nat × Mode)} (h : ∀ p ∈ us, ob' p.1 = ob p.1) : demotes ob' us = demotes ob us := by
 simp only [demotes]; refine List.map_congr_left fun p hp => zK5 (h p (List.mem_filter.1 hp).1)
theorem zES {ob ob' : Objs} : ∀ {t : Ty} {cs : List C} {x : t.den} {us : List (Nat × Mode)} {r : List C}, packC ob t cs = some (x, us, r) → (∀ p ∈ us, ob' p.1 = ob p.1) → packC ob' t cs = some (x, us, r)
 | .int k, cs, x, us, r, h, hu => by
  match cs, h with
  | .int k' n :: r', h => simpa only [packC] using h
 | .bool, cs, x, us, r, h, hu => by
  match cs, h with
  | .bool b :: r', h => simpa only [packC] using h
 | .arr k m, cs, x, us, r, h, hu => by
  match cs, h with
  | [], h => simp [packC] at h
  | c :: cs, h => cases c <;> simp [packC] at h
 | .barr m, cs, x, us, r, h, hu => by
  match cs, h with
  | [], h => simp [packC] at h
  | c :: cs, h => cases c <;> simp [packC] at h
 | .slice t, cs, x, us, r, h, hu => by
  match cs, h with
  | .nil :: r', h => simpa only [packC] using h
  | .sl o :: r', h =>
   simp only [packC] at h ⊢
   split at h
   · rename_i m ys hr; simp only [Option.some.injEq, Prod.mk.injEq] at h; obtain ⟨rfl, rfl, rfl⟩ := h; rw [zCl (hu (o, m) (by simp)), hr]
   · simp at h
 | .pair a b, cs, x, us, r, h, hu => by
  simp only [packC] at h ⊢
  split at h
  · rename_i x1 us1 r1 h1
    split at h
    · rename_i x2 us2 r2 h2; simp only [Option.some.injEq, Prod.mk.injEq] at h; obtain ⟨rfl, rfl, rfl⟩ := h; rw [zES h1 (fun p hp => hu p (by simp [hp]))]; simp only; rw [zES h2 (fun p hp => hu p (by simp [hp]))]
    · simp at h
  · simp at h
theorem zi {ob ob' : Objs} {t : Ty} {w : W} {x : t.den} {us : List (Nat × Mode)} (h : packW ob t w = some (x, us)) (hu : ∀ p ∈ us, ob' p.1 = ob p.1) : packW ob' t w = some (x, us) := by
 cases t with
 | int k => cases w with
  | c c => cases c <;> simp_all [packW]
  | _ => simp [packW] at h
 | bool => cases w with
  | c c => cases c <;> simp_all [packW]
  | _ => simp [packW] at h
 | arr k m => cases w <;> simp_all [packW]
 | barr m => cases w <;> simp_all [packW]
 | slice t => cases w with
  | c c =>
   cases c with
   | nil => simpa only [packW] using h
   | sl o =>
    simp only [packW] at h ⊢
    split at h
    · rename_i m ys hr; simp only [Option.some.injEq, Prod.mk.injEq] at h; obtain ⟨rfl, rfl⟩ := h; rw [zCl (hu (o, m) (by simp)), hr]
    · simp at h
   | _ => simp [packW] at h
  | _ => simp [packW] at h
 | pair a b => cases w with
  | st cs =>
   simp only [packW] at h ⊢
   split at h
   · rename_i x1 us1 h1; simp only [Option.some.injEq, Prod.mk.injEq] at h; obtain ⟨rfl, rfl⟩ := h; rw [zES h1 hu]
   · simp at h
  | _ => simp [packW] at h
theorem kj {ob ob' : Objs} {t : Ty} {w : W} {us : List (Nat × Mode)} {xs : List t.den} (h : w.sliceOf ob t = some (us, xs)) (hu : ∀ p ∈ us, ob' p.1 = ob p.1) : w.sliceOf ob' t = some (us, xs) := by
 cases w with
 | c c =>
  cases c with
  | nil => simpa only [W.sliceOf] using h
  | sl o =>
   simp only [W.sliceOf] at h ⊢
   split at h
   · rename_i m ys hr; simp only [Option.some.injEq, Prod.mk.injEq] at h; obtain ⟨rfl, rfl⟩ := h; rw [zCl (hu (o, m) (by simp)), hr]
   · simp at h
  | _ => simp [W.sliceOf] at h
 | _ => simp [W.sliceOf] at h
theorem zCL {s s' : St} {o es j : Nat} {t : Ty} (h : s'.ob o = s.ob o) : pointsTo s' o es j t = pointsTo s o es j t := by simp only [pointsTo, h]
theorem zGm {ob ob' : Objs} {t : Ty} : ∀ {parts : List (Nat × V)} {n : Nat} {xs : List t.den} {us : List (Nat × Mode)}, elemsE ob t n parts = some (xs, us) → (∀ p ∈ us, ob' p.1 = ob p.1) → elemsE ob' t n parts = some (xs, us)
 | [], n, xs, us, h, hu => by simpa only [elemsE] using h
 | (i, v) :: r, n, xs, us, h, hu => by
  simp only [elemsE] at h ⊢
  split at h
  · rename_i hi; rw [if_pos hi]
    split at h
    · rename_i w hw
      split at h
      · rename_i x1 us1 xs1 us2 h1 h2; simp only [Option.some.injEq, Prod.mk.injEq] at h; obtain ⟨rfl, rfl⟩ := h; rw [zi h1 (fun p hp => hu p (by simp [hp])), zGm h2 (fun p hp => hu p (by simp [hp]))]
      · simp at h
    · simp at h
  · simp at h
end
end Go.Ev
namespace Go.Ev
section
variable {E : Env} {fd : FD} {call : Oracle}
theorem zLv {s s' : St} {d : Nat} {T : TypeId} {c : C} {e : Eff} (h : loadE E s d T c = some e) (hr : ∀ id ∈ e.rd, s'.ob id = s.ob id) : loadE E s' d T c = some e := by
 cases c with
 | ptr o i es j =>
  have ho : o ∈ e.rd := by
   have h' := h; unfold loadE at h'; simp only at h'
   repeat' (split at h')
   all_goals first | (simp at h'; done) | (simp only [Option.some.injEq] at h'; subst h'; simp)
  unfold loadE at h ⊢; simp only [hr o ho] at h ⊢; exact h
 | _ => simp [loadE] at h
theorem zFJ {ob ob' : Objs} {us : List (Nat × Mode)} (h : ∀ p ∈ us, ob' p.1 = ob p.1) : us.all (ownFlat ob') = us.all (ownFlat ob) := by
 induction us with
 | nil => rfl
 | cons p us ih =>
  simp only [List.all_cons]; rw [ih (fun q hq => h q (by simp [hq]))]; simp only [ownFlat, h p (by simp)]
theorem zKZ {s s' : St} {mv : Bool} {T : TypeId} {c : C} {v : W} {e : Eff} (h : storeE E s mv T c v = some e) (hr : ∀ id ∈ e.rd, s'.ob id = s.ob id) : storeE E s' mv T c v = some e := by
 cases c with
 | ptr o i es j =>
  have ho : o ∈ e.rd := by
   have h' := h; unfold storeE at h'; simp only at h'
   repeat' (split at h')
   all_goals first | (simp at h'; done) | (simp only [Option.some.injEq] at h'; subst h'; simp)
  have ho' := hr o ho; unfold storeE at h ⊢; simp only [ho'] at h ⊢
  split at h
  · rename_i t x ht hb; exact h
  · rename_i t md u xs ht hb
    split at h
    · rename_i hes; rw [if_pos hes]
      split at h
      · rename_i htu; rw [if_pos htu]
        split at h
        · rename_i hj; rw [if_pos hj]
          split at h
          · rename_i x us hp; have hu : ∀ p ∈ us, s'.ob p.1 = s.ob p.1 := by
             intro p hp; refine hr p.1 ?_
             split at h
             · split at h
               · simp only [Option.some.injEq] at h; subst h; simp only [List.mem_cons, List.mem_map]; exact .inr ⟨p, hp, rfl⟩
               · simp at h
             · split at h
               · simp only [Option.some.injEq] at h; subst h; simp only [List.mem_cons, List.mem_map]; exact .inr ⟨p, hp, rfl⟩
               split at h
               · simp only [Option.some.injEq] at h; subst h; simp only [List.mem_cons, List.mem_map]; exact .inr ⟨p, hp, rfl⟩
               · simp at h
            rw [zi hp hu]; simp only [kz hu, zFJ hu]; exact h
          · simp at h
        · simp at h
      · rename_i htu; rw [if_neg htu]; exact h
    · simp at h
  · simp at h
 | _ => simp [storeE] at h
theorem zKG {s s' : St} {d : Nat} {t : Ty} {a b : W} {e : Eff} (h : appendE s d t a b = some e) (hr : ∀ id ∈ e.rd, s'.ob id = s.ob id) : appendE s' d t a b = some e := by
 unfold appendE at h ⊢
 split at h
 · rename_i us xs vs ys h1 h2
   split at h
   · rename_i hc; have hu : ∀ p ∈ us, s'.ob p.1 = s.ob p.1 := fun p hp => hr p.1 (by
      split at h <;> (simp only [Option.some.injEq] at h; subst h; simp only [List.mem_append, List.mem_map]; exact .inl ⟨p, hp, rfl⟩))
     have hv : ∀ p ∈ vs, s'.ob p.1 = s.ob p.1 := fun p hp => hr p.1 (by
      split at h <;> (simp only [Option.some.injEq] at h; subst h; simp only [List.mem_append, List.mem_map]; exact .inr ⟨p, hp, rfl⟩))
     rw [kj h1 hu, kj h2 hv]; simp only [if_pos hc, kz hv]; exact h
   · simp at h
 · simp at h
theorem zKF {s s' : St} {d : Nat} {t : Ty} {a b : W} {e : Eff} (h : appendM s d t a b = some e) (hr : ∀ id ∈ e.rd, s'.ob id = s.ob id) : appendM s' d t a b = some e := by
 unfold appendM at h ⊢
 split at h
 · rename_i us xs vs ys h1 h2
   split at h
   · rename_i hc; have h0 := h; simp only [Option.some.injEq] at h; subst h; have hu : ∀ p ∈ us, s'.ob p.1 = s.ob p.1 := fun p hp => hr p.1 (List.mem_append.2 (.inl (List.mem_map_of_mem hp))); have hv : ∀ p ∈ vs, s'.ob p.1 = s.ob p.1 := fun p hp => hr p.1 (List.mem_append.2 (.inr (List.mem_map_of_mem hp))); rw [kj h1 hu, kj h2 hv]; simp only [if_pos hc]
   · simp at h
 · simp at h
theorem zNy {s s' : St} {d : Nat} {T : TypeId} {len : Nat} {parts : List (Nat × V)} {e : Eff} (h : litE E s d T len parts = some e) (hr : ∀ id ∈ e.rd, s'.ob id = s.ob id) : litE E s' d T len parts = some e := by
 unfold litE at h ⊢
 split at h
 · rename_i t v ht
   split at h
   · rename_i u hu
     split at h
     · rename_i x us hp
       split at h
       · rename_i hc; simp only [Option.some.injEq] at h; subst h; have hu' : ∀ p ∈ us, s'.ob p.1 = s.ob p.1 := fun p hp => hr p.1 (List.mem_map_of_mem hp); rw [zi hp hu']; simp only [zFJ hu', if_pos hc]
       · simp at h
     · simp at h
   · simp at h
 · exact h
 · simp at h
theorem zKd {s s' : St} {d : Nat} {t : Ty} {x : W} {lo hi : Option Int} {e : Eff} (h : sliceE fd s d t x lo hi = some e) (hr : ∀ id ∈ e.rd, s'.ob id = s.ob id) : sliceE fd s' d t x lo hi = some e := by
 unfold sliceE at h ⊢
 split at h
 · rename_i us xs h1; have hu : (∀ p ∈ us, s'.ob p.1 = s.ob p.1) := by
    intro p hp; refine hr p.1 ?_
    split at h
    · split at h
      · simp only [Option.some.injEq] at h; subst h; exact List.mem_map_of_mem hp
      · simp at h
    · simp only [Option.some.injEq] at h; subst h; exact List.mem_map_of_mem hp
   rw [kj h1 hu]; simp only [kz hu]; exact h
 · simp at h
theorem zLU {s s' : St} {d : Nat} {k : IntKind} {m o : Nat} {e : Eff} (h : viewE s d k m o = some e) (hr : ∀ id ∈ e.rd, s'.ob id = s.ob id) : viewE s' d k m o = some e := by
 have ho : s'.ob o = s.ob o := by
  refine hr o ?_; unfold viewE at h
  split at h
  · split at h
    · simp only [Option.some.injEq] at h; subst h; simp
    · simp at h
  · simp at h
 unfold viewE at h ⊢; rw [ho]
 split at h
 · rename_i md k' m' xs hb; have : demotes s'.ob [(o, md)] = demotes s.ob [(o, md)] := kz (fun p hp => by simp only [List.mem_singleton] at hp; subst hp; exact ho); simp only [hb, this]; exact h
 · simp at h
theorem zKr {s s' : St} {l : List (Nat × Operand)} (h : ∀ p ∈ l, s'.eval p.2 = s.eval p.2) : (l.map fun p => (p.1, s'.eval p.2)) = l.map fun p => (p.1, s.eval p.2) :=
 List.map_congr_left fun p hp => by rw [h p hp]
theorem zLg {s s' : St} {d : Nat} {op : Op} {e : Eff} (h : step1 E fd s d op = some e) (hx : ∀ x ∈ op.operands, s'.eval x = s.eval x) (hr : ∀ id ∈ e.rd, s'.ob id = s.ob id) : step1 E fd s' d op = some e := by
 cases op with
 | move x => simp only [step1, hx x (by simp [Op.operands])] at h ⊢; exact h
 | assign x =>
  have hxx := hx x (by simp [Op.operands]); simp only [step1] at h ⊢
  split at h
  · exact h
  · rw [hxx]; exact h
 | pick c x y => simp only [step1, hx c (by simp [Op.operands]), hx x (by simp [Op.operands]), hx y (by simp [Op.operands])] at h ⊢; exact h
 | alloc T => simp only [step1] at h ⊢; exact h
 | box T x => simp only [step1, hx x (by simp [Op.operands])] at h ⊢; exact h
 | build T parts =>
  have := zKr (s := s) (s' := s') (l := parts.toList) (fun p hp => hx p.2 (by simp only [Op.operands, List.mem_toArray, List.mem_map]; exact ⟨p, hp, rfl⟩)); simp only [step1, this] at h ⊢; exact h
 | buildSlice T len parts =>
  have := zKr (s := s) (s' := s') (l := parts.toList) (fun p hp => hx p.2 (by simp only [Op.operands, List.mem_toArray, List.mem_map]; exact ⟨p, hp, rfl⟩)); simp only [step1, this] at h ⊢
  cases hmv : fd.moves.contains d with
  | true =>
   simp only [hmv] at h ⊢; exact zNy h hr
  | false =>
  simp only [hmv] at h ⊢
  split at h
  · rename_i t ht
    split at h
    · rename_i xs us hu; have hu' : ∀ p ∈ us, s'.ob p.1 = s.ob p.1 := by
       intro p hp; refine hr p.1 ?_
       split at h
       · split at h
         · simp only [Option.some.injEq] at h; subst h; exact List.mem_map_of_mem hp
         · simp only [Option.some.injEq] at h; subst h; exact List.mem_map_of_mem hp
       · simp at h
      rw [zGm hu hu']; simp only [kz hu']; exact h
    · simp at h
  · simp at h
 | load T x =>
  simp only [step1, hx x (by simp [Op.operands])] at h ⊢
  split at h
  · exact zLv h hr
  · simp at h
 | store T x y =>
  simp only [step1, hx x (by simp [Op.operands]), hx y (by simp [Op.operands])] at h ⊢
  split at h
  · exact zKZ h hr
  · simp at h
 | nilCheck x => simp only [step1, hx x (by simp [Op.operands])] at h ⊢; exact h
 | binOp op T x y T' => simp only [step1, hx x (by simp [Op.operands]), hx y (by simp [Op.operands])] at h ⊢; exact h
 | unOp op T x => simp only [step1, hx x (by simp [Op.operands])] at h ⊢; exact h
 | convert T T' x => simp only [step1, hx x (by simp [Op.operands])] at h ⊢; exact h
 | makeFunc fn first captured =>
  cases fn with
  | func f =>
   have : captured.toList.map s'.eval = captured.toList.map s.eval := List.map_congr_left fun x hm => hx x (by simp only [Op.operands, Array.mem_append]; exact .inr (Array.mem_toList_iff.1 hm))
   simp only [step1, this] at h ⊢; exact h
  | _ => simp [step1] at h
 | makeSlice T x y => simp only [step1, hx x (by simp [Op.operands]), hx y (by simp [Op.operands])] at h ⊢; exact h
 | slice T x lo hi mx =>
  cases mx with
  | none =>
   have h1 : lo.map s'.eval = lo.map s.eval := by cases lo with
    | none => rfl
    | some y => simp only [Option.map_some, hx y (by simp [Op.operands])]
   have h2 : hi.map s'.eval = hi.map s.eval := by cases hi with
    | none => rfl
    | some y => simp only [Option.map_some, hx y (by simp [Op.operands])]
   simp only [step1, hx x (by simp [Op.operands]), h1, h2] at h ⊢
   split at h
   · exact zKd h hr
   · exact zLU h hr
   · simp at h
  | some m => simp [step1] at h
 | fieldAddr T x f =>
  simp only [step1, hx x (by simp [Op.operands])] at h ⊢
  split at h
  · rename_i t o i es j ht hu
    split at h
    · rename_i n u hn
      split at h
      · rename_i hp; simp only [Option.some.injEq] at h; subst h; rw [zCL (hr o (by simp)), hp]; simp
      · simp at h
    · simp at h
  · simp at h
 | field T x f => simp only [step1, hx x (by simp [Op.operands])] at h ⊢; exact h
 | indexAddr T x y =>
  simp only [step1, hx x (by simp [Op.operands]), hx y (by simp [Op.operands])] at h ⊢
  split at h
  · rename_i t o k n ht hu hy
    split at h
    · rename_i m xs hrw; simp only [Option.some.injEq] at h; subst h; simp only [zCl (hr o (by simp)), hrw]
    · simp at h
  · rename_i k m o i es k' n ht hu hy
    split at h
    · rename_i hp; simp only [Option.some.injEq] at h; subst h; simp only [zCL (hr o (by simp)), hp, if_true]
    · simp at h
  · rename_i m o i es k' n ht hu hy
    split at h
    · rename_i hp; simp only [Option.some.injEq] at h; subst h; simp only [zCL (hr o (by simp)), hp, if_true]
    · simp at h
  · simp at h
 | index T x y =>
  have hxx := hx x (by simp [Op.operands]); have hyy := hx y (by simp [Op.operands]); simp only [step1] at h ⊢
  split at h
  · simp only [hyy]; exact h
  · rw [hxx, hyy]; exact h
 | extract x i => simp only [step1, hx x (by simp [Op.operands])] at h ⊢; exact h
 | call c =>
  obtain ⟨callee, args, argTypes⟩ := c
  cases callee with
  | builtin b =>
   have ha : ∀ x ∈ args.toList, s'.eval x = s.eval x := fun x hm => hx x (by simp only [Op.operands, Call.operands]; simpa using hm)
   simp only [step1] at h ⊢
   split at h
   · rename_i x T h1 h2; rw [h1] at ha; simp only [ha x (by simp)] at h ⊢
     split at h
     · rename_i t u ht hu
       split at h
       · rename_i us xs hs; simp only [Option.some.injEq] at h; subst h; rw [kj hs (fun p hp => hr p.1 (List.mem_map_of_mem hp))]
       · simp at h
     · exact h
     · simp at h
   · rename_i x y T T' h1 h2; rw [h1] at ha; simp only [ha x (by simp), ha y (by simp)] at h ⊢
     split at h
     · split at h
       · rename_i htt; rw [if_pos htt]
         cases hmv : fd.moves.contains d with
         | true =>
          simp only [hmv] at h ⊢; exact zKF h hr
         | false =>
          simp only [hmv] at h ⊢; exact zKG h hr
       · simp at h
     · simp at h
   · rename_i x r h1; rw [h1] at ha; have : r.map s'.eval = r.map s.eval := List.map_congr_left fun y hy => ha y (by simp [hy])
     simp only [ha x (by simp), this] at h ⊢; exact h
   · rename_i x r h1; rw [h1] at ha; have : r.map s'.eval = r.map s.eval := List.map_congr_left fun y hy => ha y (by simp [hy])
     simp only [ha x (by simp), this] at h ⊢; exact h
   · simp at h
  | _ => simp [step1] at h
 | _ => simp [step1] at h
end
end Go.Ev
namespace Go.Ev
section
variable {E : Env} {fd : FD} {call : Oracle}
def Pack.ids (p : Pack) : List Nat := p.ro.map (·.1) ++ p.excl
theorem Pack.ids_add {p q : Pack} {id : Nat} : id ∈ (p.add q).ids ↔ id ∈ p.ids ∨ id ∈ q.ids := by
 simp only [Pack.ids, Pack.excl, Pack.mutIds, Pack.add, List.map_append, List.flatMap_append, List.mem_append]
 constructor
 · rintro ((h | h) | (((h | h) | (h | h)) | (h | h))) <;> simp [h]
 · rintro ((h | ((h | h) | h)) | (h | ((h | h) | h))) <;> simp [h]
theorem zDb {ob : Objs} : ∀ {t : Ty} {cs : List C} {x : t.den} {us : List (Nat × Mode)} {r : List C}, packC ob t cs = some (x, us, r) →
  ∃ L : List (Option Nat), C.slices cs = L ++ C.slices r ∧ L.filterMap id = us.map (·.1)
 | .int k, cs, x, us, r, h => by
  match cs, h with
  | .int k' n :: r', h =>
   simp only [packC] at h
   split at h
   · simp only [Option.some.injEq, Prod.mk.injEq] at h; obtain ⟨rfl, rfl, rfl⟩ := h; exact ⟨[], rfl, rfl⟩
   · simp at h
 | .bool, cs, x, us, r, h => by
  match cs, h with
  | .bool b :: r', h =>
   simp only [packC, Option.some.injEq, Prod.mk.injEq] at h; obtain ⟨rfl, rfl, rfl⟩ := h; exact ⟨[], rfl, rfl⟩
 | .arr k m, cs, x, us, r, h => by
  match cs, h with
  | [], h => simp [packC] at h
  | c :: cs, h => cases c <;> simp [packC] at h
 | .barr m, cs, x, us, r, h => by
  match cs, h with
  | [], h => simp [packC] at h
  | c :: cs, h => cases c <;> simp [packC] at h
 | .slice t, cs, x, us, r, h => by
  match cs, h with
  | .nil :: r', h =>
   simp only [packC, Option.some.injEq, Prod.mk.injEq] at h; obtain ⟨rfl, rfl, rfl⟩ := h; exact ⟨[none], rfl, rfl⟩
  | .sl o :: r', h =>
   simp only [packC] at h
   split at h
   · rename_i m ys hr; simp only [Option.some.injEq, Prod.mk.injEq] at h; obtain ⟨rfl, rfl, rfl⟩ := h; exact ⟨[some o], rfl, rfl⟩
   · simp at h
 | .pair a b, cs, x, us, r, h => by
  simp only [packC] at h
  split at h
  · rename_i x1 us1 r1 h1
    split at h
    · rename_i x2 us2 r2 h2; simp only [Option.some.injEq, Prod.mk.injEq] at h; obtain ⟨rfl, rfl, rfl⟩ := h; obtain ⟨L1, e1, f1⟩ := zDb h1; obtain ⟨L2, e2, f2⟩ := zDb h2; exact ⟨L1 ++ L2, by rw [e1, e2, List.append_assoc], by simp [f1, f2]⟩
    · simp at h
  · simp at h
theorem zBx {ob : Objs} {t : Ty} {w : W} {x : t.den} {us : List (Nat × Mode)} (h : packW ob t w = some (x, us)) : (w.slices).filterMap id = us.map (·.1) := by
 cases t with
 | int k => cases w with
  | c c => cases c <;> simp_all [packW, W.slices, C.slices]
  | _ => simp [packW] at h
 | bool => cases w with
  | c c => cases c <;> simp_all [packW, W.slices, C.slices]
  | _ => simp [packW] at h
 | arr k m => cases w <;> simp_all [packW, W.slices]
 | barr m => cases w <;> simp_all [packW, W.slices]
 | slice t => cases w with
  | c c =>
   cases c with
   | nil => simp only [packW, Option.some.injEq, Prod.mk.injEq] at h; obtain ⟨rfl, rfl⟩ := h; rfl
   | sl o =>
    simp only [packW] at h
    split at h
    · simp only [Option.some.injEq, Prod.mk.injEq] at h; obtain ⟨rfl, rfl⟩ := h
      rfl
    · simp at h
   | _ => simp [packW] at h
  | _ => simp [packW] at h
 | pair a b => cases w with
  | st cs =>
   simp only [packW] at h
   split at h
   · rename_i x1 us1 h1; simp only [Option.some.injEq, Prod.mk.injEq] at h; obtain ⟨rfl, rfl⟩ := h; obtain ⟨L, e, f⟩ := zDb h1; simp only [W.slices, e, C.slices, List.append_nil, f]
   · simp at h
  | _ => simp [packW] at h
section
variable {ob ob' : Objs}
theorem zGg {t : Ty} {w : W} {p : Pack} (h : packRo ob t w = some p) (hu : ∀ o ∈ p.ids, ob' o = ob o) : packRo ob' t w = some p := by
 unfold packRo at h ⊢
 split at h
 · rename_i x us hp; simp only [Option.some.injEq] at h; subst h; rw [zi hp (fun q hq => hu q.1 (by simp only [Pack.ids, List.mem_append]; exact .inl (List.mem_map_of_mem hq)))]
 · simp at h
theorem zFH {t : Ty} {w : W} {p : Pack} (h : packBox ob t w = some p) (hu : ∀ o ∈ p.ids, ob' o = ob o) : packBox ob' t w = some p := by
 unfold packBox at h ⊢
 split at h
 · rename_i o
   split at h
   · rename_i w hb
     split at h
     · rename_i x us hp
       split at h
       · rename_i hc; simp only [Option.some.injEq] at h; subst h; have h1 : ob' o = ob o := hu o (by simp [Pack.ids, Pack.excl, Pack.mutIds]); have h2 : ∀ q ∈ us, ob' q.1 = ob q.1 := fun q hq => hu q.1 (by simp only [Pack.ids, Pack.excl, List.mem_append]; exact .inr (.inl (.inl (List.mem_map_of_mem hq))))
         simp only [h1, hb, zi hp h2, if_pos hc]
       · simp at h
     · simp at h
   · simp at h
 · simp at h
theorem zIi {t : Ty} {w : W} {p : Pack} (h : packBoxR ob t w = some p) (hu : ∀ o ∈ p.ids, ob' o = ob o) : packBoxR ob' t w = some p := by
 unfold packBoxR at h ⊢
 split at h
 · rename_i o
   split at h
   · rename_i w hb
     split at h
     · rename_i x us hp; simp only [Option.some.injEq] at h; subst h; have h1 : ob' o = ob o := hu o (by simp [Pack.ids, Pack.excl, Pack.mutIds]); have h2 : ∀ q ∈ us, ob' q.1 = ob q.1 := fun q hq => hu q.1 (by simp only [Pack.ids, List.mem_append]; exact .inl (List.mem_map_of_mem hq))
       simp only [h1, hb, zi hp h2]
     · simp at h
   · simp at h
 · simp at h
theorem zFA {t : Ty} {w : W} {p : Pack} (h : packRob ob t w = some p) (hu : ∀ o ∈ p.ids, ob' o = ob o) : packRob ob' t w = some p := by
 unfold packRob at h ⊢
 split at h
 · rename_i o
   split at h
   · rename_i m w hb
     split at h
     · rename_i x us hp; simp only [Option.some.injEq] at h; subst h; have h1 : ob' o = ob o := hu o (by simp [Pack.ids]); have h2 : ∀ q ∈ us, ob' q.1 = ob q.1 := fun q hq => hu q.1 (by simp only [Pack.ids, List.map_cons, List.mem_append, List.mem_cons]; exact .inl (.inr (List.mem_map_of_mem hq)))
       simp only [h1, hb, zi hp h2]
     · simp at h
   · simp at h
 · simp at h
theorem zJi {t : Ty} {w : W} {b : CK} {p : Pack} (h : packCap ob t w b = some p) (hu : ∀ o ∈ p.ids, ob' o = ob o) : packCap ob' t w b = some p := by
 cases b with
 | val => exact zGg h hu
 | rob => exact zFA h hu
 | box => exact zFH h hu
theorem zEF : ∀ {caps : List (CK × Ty)} {ws : List W} {p : Pack}, packCaps ob caps ws = some p → (∀ o ∈ p.ids, ob' o = ob o) → packCaps ob' caps ws = some p
 | [], [], p, h, _ => by simpa only [packCaps] using h
 | [], _ :: _, p, h, _ => by simp [packCaps] at h
 | _ :: _, [], p, h, _ => by simp [packCaps] at h
 | (b, t) :: r, w :: ws, p, h, hu => by
  simp only [packCaps] at h ⊢
  split at h
  · rename_i q q' h1 h2; simp only [Option.some.injEq] at h; subst h; rw [zJi h1 (fun o ho => hu o (Pack.ids_add.2 (.inl ho))), zEF h2 (fun o ho => hu o (Pack.ids_add.2 (.inr ho)))]
  · simp at h
theorem zJl {k : PK} {v : V} {p : Pack} (h : packArg ob k v = some p) (hu : ∀ o ∈ p.ids, ob' o = ob o) : packArg ob' k v = some p := by
 cases k with
 | ro t => cases v with
  | w w => exact zGg h hu
  | _ => simp [packArg] at h
 | own t => cases v with
  | w w =>
   simp only [packArg] at h ⊢
   split at h
   · rename_i x us hp
     split at h
     · rename_i hc; simp only [Option.some.injEq] at h; subst h; rw [zi hp (fun q hq => hu q.1 (by simp only [Pack.ids, Pack.excl, List.mem_append]; exact .inr (.inl (.inl (List.mem_map_of_mem hq)))))]; simp only [if_pos hc]
     · simp at h
   · simp at h
  | _ => simp [packArg] at h
 | shs t => cases v with
  | w w =>
   simp only [packArg] at h ⊢
   split at h
   · rename_i x us hp
     split at h
     · rename_i hc; simp only [Option.some.injEq] at h; subst h; rw [zi hp (fun q hq => hu q.1 (by simp only [Pack.ids, Pack.excl, List.mem_append]; exact .inr (.inl (.inl (List.mem_map_of_mem hq)))))]; simp only [if_pos hc]
     · simp at h
   · simp at h
  | _ => simp [packArg] at h
 | «mut» t => cases v with
  | w w =>
   simp only [packArg] at h ⊢
   split at h
   · rename_i x us hp
     split at h
     · rename_i hc; simp only [Option.some.injEq] at h; subst h; have := zBx hp; rw [zi hp (fun q hq => hu q.1 (by
        have hm : q.1 ∈ us.map (·.1) := List.mem_map_of_mem hq; rw [← this] at hm; simp only [Pack.ids, Pack.excl, Pack.mutIds, List.mem_append, List.flatMap_cons, List.flatMap_nil, List.append_nil]; exact .inr (.inl (.inr hm))))]
       simp only [if_pos hc]
     · simp at h
   · simp at h
  | _ => simp [packArg] at h
 | muts t => cases v with
  | w w =>
   simp only [packArg] at h ⊢
   split at h
   · rename_i x us hp
     split at h
     · rename_i hc; simp only [Option.some.injEq] at h; subst h; have := zBx hp; rw [zi hp (fun q hq => hu q.1 (by
        have hm : q.1 ∈ us.map (·.1) := List.mem_map_of_mem hq; rw [← this] at hm; simp only [Pack.ids, Pack.excl, Pack.mutIds, List.mem_append, List.flatMap_cons, List.flatMap_nil, List.append_nil]; exact .inr (.inl (.inr hm))))]
       simp only [if_pos hc]
     · simp at h
   · simp at h
  | _ => simp [packArg] at h
 | boxr t => cases v with
  | w w => exact zIi h hu
  | _ => simp [packArg] at h
 | rob t => cases v with
  | w w => exact zFA h hu
  | _ => simp [packArg] at h
 | box t => cases v with
  | w w => exact zFH h hu
  | _ => simp [packArg] at h
 | fn f caps => cases v with
  | fn g ws =>
   simp only [packArg] at h ⊢
   split at h
   · rename_i hg; rw [if_pos hg]; exact zEF h hu
   · simp at h
  | _ => simp [packArg] at h
theorem zEJ : ∀ {ks : List PK} {vs : List V} {p : Pack}, packArgs ob ks vs = some p → (∀ o ∈ p.ids, ob' o = ob o) → packArgs ob' ks vs = some p
 | [], [], p, h, _ => by simpa only [packArgs] using h
 | [], _ :: _, p, h, _ => by simp [packArgs] at h
 | _ :: _, [], p, h, _ => by simp [packArgs] at h
 | k :: ks, v :: vs, p, h, hu => by
  simp only [packArgs] at h ⊢
  split at h
  · rename_i q q' h1 h2; simp only [Option.some.injEq] at h; subst h; rw [zJl h1 (fun o ho => hu o (Pack.ids_add.2 (.inl ho))), zEJ h2 (fun o ho => hu o (Pack.ids_add.2 (.inr ho)))]
  · simp at h
theorem zK0 {o : Nat} (h : ob' o = ob o) : flatAt ob' o = flatAt ob o := by simp only [flatAt, h]
end
theorem zMG {s s' : St} {d : Nat} {f : FuncId} {args : List V} {e : Eff} (h : callK E call s d f args some = some e) (hr : ∀ id ∈ e.rd, s'.ob id = s.ob id) : callK E call s' d f args some = some e := by
 unfold callK at h ⊢
 split at h
 · rename_i fd hfd; simp only [hfd] at h ⊢
   split at h
   · rename_i hid; rw [if_pos hid]
     split at h
     · rename_i p hp
       split at h
       · rename_i hok; rw [Option.bind_eq_some_iff] at h; obtain ⟨outs, ho, h⟩ := h; simp only [Option.some.injEq] at h; have hu : ∀ o ∈ p.ids, s'.ob o = s.ob o := fun o hm => hr o (by rw [← h]; exact hm)
         have hd : demotes s'.ob p.ro = demotes s.ob p.ro := kz fun q hq => hu q.1 (by simp only [Pack.ids, List.mem_append]; exact .inl (List.mem_map_of_mem hq))
         have hok' : (p.ok && p.excl.all (flatAt s'.ob)) = true := by
          simp only [Bool.and_eq_true, List.all_eq_true] at hok ⊢; refine ⟨hok.1, fun o hm => ?_⟩; rw [zK0 (hu o (by simp only [Pack.ids, List.mem_append]; exact .inr hm))]; exact hok.2 o hm
         rw [zEJ hp hu]; simp only [if_pos hok', ho, Option.bind_some, hd]; rw [← h]
       · simp at h
     · simp at h
   · simp at h
 · simp at h
theorem zLe {s s' : St} {d : Nat} {op : Op} {e : Eff} (h : stepO E fd call s d op = some e) (hx : ∀ x ∈ op.operands, s'.eval x = s.eval x) (hr : ∀ id ∈ e.rd, s'.ob id = s.ob id) : stepO E fd call s' d op = some e := by
 unfold stepO stepK at h ⊢
 split at h
 · rename_i f args tys; have h1 : s'.eval f = s.eval f := hx f (by simp [Op.operands, Call.operands]); have h2 : args.toList.map s'.eval = args.toList.map s.eval := List.map_congr_left fun x hm => hx x (by simp only [Op.operands, Call.operands]; simp; exact .inr (by simpa using hm))
   simp only [h1, h2] at h ⊢
   split at h
   · exact zMG h hr
   · simp at h
 · split at h
   · rename_i e' he
     cases hok : e'.ok with
     | false => simp [hok] at h
     | true =>
      simp only [hok, cond, Option.some.injEq] at h; subst h; rw [zLg he hx hr]; simp [hok]
   · simp at h
theorem zPC {s s' : St} {o : Oper} {e : Eff} (h : opO E fd call s o = some e) (hx : ∀ x ∈ o.op.operands, s'.eval x = s.eval x) (hr : ∀ id ∈ e.rd, s'.ob id = s.ob id) (hn : ∀ id ∈ e.nw.map (·.1), s'.ob id = none) :
  opO E fd call s' o = some e := by
 unfold opO at h ⊢; rw [Option.bind_eq_some_iff] at h; obtain ⟨e', h1, h2⟩ := h
 split at h2
 · rename_i hf; simp only [Option.some.injEq] at h2; subst h2; rw [zLe h1 hx hr]; have : fresh s'.ob (e'.nw.map (·.1)) = true := by
    obtain ⟨g1, g2⟩ := jZ hf; simp only [fresh, Bool.and_eq_true, decide_eq_true_eq, List.all_eq_true, Option.isNone_iff_eq_none]; exact ⟨g1, hn⟩
   simp [this]
 · simp at h2
theorem zKq {s : St} {o : Oper} {e : Eff} (h : opO E fd call s o = some e) : fresh s.ob (e.nw.map (·.1)) = true := by
 unfold opO at h; rw [Option.bind_eq_some_iff] at h; obtain ⟨e', h1, h2⟩ := h
 split at h2
 · rename_i hf; simp only [Option.some.injEq] at h2; subst h2; exact hf
 · simp at h2
theorem zNu {ops : Array Oper} {s s' : St} {o : Oper} {x : Option Eff} (h : outO E fd call ops s o = some x) (hx : ∀ t ∈ usesOf ops o, s'.tm[t]? = s.tm[t]?) (hr : ∀ id ∈ (logO x).1, s'.ob id = s.ob id)
  (hn : ∀ e, x = some e → ∀ id ∈ e.nw.map (·.1), s'.ob id = none) : outO E fd call ops s' o = some x := by
 have hw : wants ops s' o = wants ops s o := by
  unfold wants
  cases hg : o.guard with
  | none => rfl
  | some g =>
   obtain ⟨j, want⟩ := g; simp only
   cases ht : (ops[j]?).bind (·.dst) with
   | none => rfl
   | some t =>
    simp only; have : s'.tm[t]? = s.tm[t]? := hx t (by simp [usesOf, hg, ht]); simp only [List.getD_eq_getElem?_getD, this]
 have he : ∀ x ∈ o.op.operands, s'.eval x = s.eval x := fun x hm => zTB fun t ht => hx t (by
  simp only [usesOf, List.mem_append, List.mem_flatMap]; exact .inl ⟨x, Array.mem_toList_iff.2 hm, by simp [ht, operTmp]⟩)
 unfold outO at h ⊢; rw [hw]
 split at h
 · rename_i hap; rw [if_pos hap]
   split at h
   · rw [Option.map_eq_some_iff] at h; obtain ⟨e, h1, rfl⟩ := h; rw [zPC h1 he hr (hn e rfl)]
     rfl
   · exact h
   · simp at h
 · simp at h
end
end Go.Ev
namespace Go.Ev
section
variable {P : Program} {E : Env} {fd : FD} {call : Oracle} {w0 : World} {X Y0 : Nat → Prop} {fix : List (Nat × Value)}
def OpOk (P : Program) (E : Env) (fd : FD) (call : Oracle) (w0 : World) (X Y0 : Nat → Prop) (fix : List (Nat × Value)) : Prop :=
 ∀ (s : St) (ρ : Locs) (col : Col) (a : Act) (w : World) (o : Oper) (e : Eff) (K : Act → World → Prop) (Q : Exit → Act → World → Prop), Inv w0 X Y0 fix s ρ col a w → apart o.dst.toList (fix.map (·.1)) = true →
  opO E fd call s o = some e → (∀ ρ' col' a' w', Inv w0 X Y0 fix (s.put o.dst e) ρ' col' a' w' → K a' w') → o.wp P a w K Q
variable {s : St} {ρ : Locs} {col : Col} {a : Act} {w : World} {ops : Array Oper}
theorem Inv.getD (h : Inv w0 X Y0 fix s ρ col a w) {t : Nat} {v : V} (hv : s.tm.getD t .undef = v) (hne : v ≠ .undef) : a.tmps[t]? = some (vval ρ v) ∧ wfV s.ob ρ v := by
 cases ht : s.tm[t]? with
 | none => rw [List.getD_eq_getElem?_getD, ht] at hv; exact absurd hv.symm hne
 | some u =>
  rw [List.getD_eq_getElem?_getD, ht] at hv; simp only [Option.getD_some] at hv; subst hv; have hl := (List.getElem?_eq_some_iff.1 ht).1
  rcases h.tmps t u ht with g | ⟨g1, g2⟩
  · exact absurd g hne
  · refine ⟨?_, g1⟩; have hl2 : t < a.tmps.size := by rw [h.size]; exact hl
    rw [Array.getElem?_eq_getElem hl2, ← g2]; simp [Array.getD, hl2]
theorem zHD (h : Inv w0 X Y0 fix s ρ col a w) {o : Oper} {b : Bool} (hw : wants ops s o = some b) : Region.wanted o (yielded ops a.tmps) = b := by
 unfold wants at hw; unfold Region.wanted
 cases hg : o.guard with
 | none => simp only [hg, Option.some.injEq] at hw; exact hw
 | some g =>
  obtain ⟨j, want⟩ := g; simp only [hg] at hw ⊢
  cases ht : (ops[j]?).bind (·.dst) with
  | none => simp [ht] at hw
  | some t =>
   simp only [ht] at hw; unfold yielded; simp only [ht, Option.bind_some]
   split at hw
   · rename_i hgd; simp only [Option.some.injEq] at hw; subst hw; have := (h.getD (zN3 hgd) (by simp)).1; rw [this]; simp [vval]
   · rename_i c hgd; simp only [Option.some.injEq] at hw; subst hw; have := (h.getD (zI1 hgd) (by simp)).1; rw [this]; simp [vval, wval, cval]
   · simp at hw
theorem zFu (hop : OpOk P E fd call w0 X Y0 fix) (hfix : fix.map (·.1) = fd.fixed) {Q : Exit → Act → World → Prop} {K : Act → World → Prop} {i : Nat} {o : Oper} {x : Option Eff}
  (h : Inv w0 X Y0 fix s ρ col a w) (ho : ops[i]? = some o) (hx : outO E fd call ops s o = some x) (hK : ∀ ρ' col' a' w', Inv w0 X Y0 fix (putO s o x) ρ' col' a' w' → K a' w') : wpOp P ops Q i K a w := by
 unfold wpOp; simp only [ho]; unfold outO at hx
 split at hx
 · rename_i hap; rw [← hfix] at hap
   split at hx
   · rename_i hw; rw [Option.map_eq_some_iff] at hx; obtain ⟨e, h1, rfl⟩ := hx; rw [zHD h hw]; simp only [if_true]; exact .inl (hop s ρ col a w o e K Q h hap h1 hK)
   · rename_i hw; simp only [Option.some.injEq] at hx; subst hx; rw [zHD h hw]; simp only [Bool.false_eq_true, if_false]; refine hK ρ col _ _ ?_; exact h.slot hap (v := .tup []) (x := undef) (.inr ⟨fun x hx => by simp at hx, by simp [vval, undef]⟩)
   · simp at hx
 · simp at hx
theorem zPA (hop : OpOk P E fd call w0 X Y0 fix) (hfix : fix.map (·.1) = fd.fixed) {Q : Exit → Act → World → Prop} {r : List Oper} {s s' : St} {xs : List (Option Eff)}
  (t : Trace E fd call ops r s xs s') : ∀ (po : List Oper) (ρ : Locs) (col : Col) (a : Act) (w : World), ops.toList = po ++ r → Inv w0 X Y0 fix s ρ col a w → (∀ ρ' col' a' w', Inv w0 X Y0 fix s' ρ' col' a' w' → Q .normal a' w') →
  wpOps P ops Q (List.range' po.length r.length) a w := by
 induction t with
 | nil s => intro po ρ col a w _ h hQ; simpa [wpOps] using hQ ρ col a w h
 | @cons o r s s' x xs hx t ih =>
  intro po ρ col a w hr h hQ; have ho : ops[po.length]? = some o := by
   rw [← Array.getElem?_toList, hr]; simp
  rw [List.length_cons, List.range'_succ, wpOps_cons]; refine zFu hop hfix h ho hx (fun ρ' col' a' w' h' => ?_); have := ih (po ++ [o]) ρ' col' a' w' (by simp [hr]) h' hQ; simpa using this
theorem zHv {p q : Nat → Bool} {i : Nat} (hp : p i = true) (hq : q i = false) (hqp : ∀ j, q j = true → p j = true) : ∀ (l : List Nat), i ∈ l → (l.filter q).length < (l.filter p).length
 | j :: l, h => by
  have le : ∀ l : List Nat, (l.filter q).length ≤ (l.filter p).length := by
   intro l
   induction l with
   | nil => simp
   | cons k l ih =>
    simp only [List.filter_cons]
    cases hk : q k with
    | true => simp [hqp k hk]; exact ih
    | false =>
     simp only [Bool.false_eq_true, if_false]
     split
     · simp; omega
     · exact ih
  by_cases e : i = j
  · subst e; simp only [List.filter_cons, hp, hq, if_true, Bool.false_eq_true, if_false, List.length_cons]; have := le l; omega
  · have ih := zHv hp hq hqp l ((List.mem_cons.1 h).resolve_left e); simp only [List.filter_cons]
    cases hk : q j with
    | true => simp [hqp j hk]; exact ih
    | false =>
     simp only [Bool.false_eq_true, if_false]
     split
     · simp; omega
     · exact ih
theorem zQB (hop : OpOk P E fd call w0 X Y0 fix) (hfix : fix.map (·.1) = fd.fixed) {Q : Exit → Act → World → Prop} {xs : List (Option Eff)} {s0 : St}
  (hf : ∀ m < ops.size, ∃ o x, ops[m]? = some o ∧ xs[m]? = some x ∧ outO E fd call ops (pre ops xs s0 (fun _ => true) m) o = some x)
  (hd : ∀ j < ops.size, ∀ i < j, i ∈ (ancGo ops.toList []).getD j [] ∨ Indep ops xs i j) (hb : ∀ (k : Nat) (o : Oper), ops[k]? = some o → ∀ j ∈ plainOn o, j < k)
  (hQ : ∀ ρ col a w, Inv w0 X Y0 fix (pre ops xs s0 (fun _ => true) ops.size) ρ col a w → Q .normal a w) :
  ∀ (fuel : Nat) (listed : Array Bool) (ρ : Locs) (col : Col) (a : Act) (w : World), listed.size = ops.size → ((List.range ops.size).filter fun j => !listed.getD j false).length ≤ fuel →
   (∀ j o, listed.getD j false = true → ops[j]? = some o → ∀ k ∈ plainOn o, listed.getD k false = true) → Inv w0 X Y0 fix (pre ops xs s0 (fun j => listed.getD j false) ops.size) ρ col a w →
   wpAny P .any ops Q fuel listed a w := by
 have plain : ∀ {o : Oper} {listed : Array Bool}, (∀ e ∈ o.after, Region.binds .any e = true → listed.getD e.on false = true) ↔ ∀ k ∈ plainOn o, listed.getD k false = true := by
  intro o listed; simp only [plainOn, List.mem_map, List.mem_filter]
  constructor
  · rintro h k ⟨e, ⟨h1, h2⟩, rfl⟩; exact h e (Array.mem_toList_iff.1 h1) h2
  · intro h e h1 h2; exact h e.on ⟨e, ⟨Array.mem_toList_iff.2 h1, h2⟩, rfl⟩
 have unl : ∀ {listed : Array Bool} {j : Nat}, listed.size = ops.size → (listed.getD j true = false ↔ j < ops.size ∧ listed.getD j false = false) := by
  intro listed j hs
  by_cases h : j < listed.size
  · simp [Array.getD, h]; omega
  · simp [Array.getD, h]; omega
 have allIn : ∀ {listed : Array Bool}, listed.size = ops.size → Region.ready .any ops listed = [] → ∀ j < ops.size, listed.getD j false = true := by
  intro listed hs hr j
  induction j using Nat.strongRecOn with
  | ind j ih =>
   intro hj
   cases hl : listed.getD j false with
   | true => rfl
   | false =>
    obtain ⟨o, x, ho, _⟩ := hf j hj; have : j ∈ Region.ready .any ops listed := mem_ready.2 ⟨(unl hs).2 ⟨hj, hl⟩, o, ho, plain.2 fun k hk => ih k (hb j o ho k hk) (by have := hb j o ho k hk; omega)⟩; rw [hr] at this; simp at this
 have fin : ∀ {listed : Array Bool} {ρ : Locs} {col : Col} {a : Act} {w : World}, listed.size = ops.size → Region.ready .any ops listed = [] → Inv w0 X Y0 fix (pre ops xs s0 (fun j => listed.getD j false) ops.size) ρ col a w → Q .normal a w := by
  intro listed ρ col a w hs hr h; rw [zG8 ops.size (B := fun _ => true) (fun j hj => allIn hs hr j hj)] at h; exact hQ ρ col a w h
 intro fuel
 induction fuel with
 | zero =>
  intro listed ρ col a w hs hc hcl h; have hr : Region.ready .any ops listed = [] := by
   cases hr : Region.ready .any ops listed with
   | nil => rfl
   | cons i r =>
    have hi : i ∈ Region.ready .any ops listed := by rw [hr]; simp
    obtain ⟨h1, _⟩ := mem_ready.1 hi; obtain ⟨h2, h3⟩ := (unl hs).1 h1; have : i ∈ (List.range ops.size).filter fun j => !listed.getD j false := List.mem_filter.2 ⟨List.mem_range.2 h2, by simp [h3]⟩
    rw [List.eq_nil_of_length_eq_zero (Nat.le_zero.1 hc)] at this; simp at this
  exact ⟨hr, fin hs hr h⟩
 | succ fuel ih =>
  intro listed ρ col a w hs hc hcl h; refine ⟨fun hr => fin hs hr h, fun i hi => ?_⟩; obtain ⟨h1, o, ho, hall⟩ := mem_ready.1 hi; obtain ⟨hin, hSi⟩ := (unl hs).1 h1; have hpl := plain.1 hall; obtain ⟨o', x, ho', hx, hout⟩ := hf i hin; rw [ho] at ho'; simp only [Option.some.injEq] at ho'; subst ho'; have hgs : ∀ j, (listed.setIfInBounds i true).getD j false = (listed.getD j false || j == i) := by
   intro j
   by_cases e : i = j
   · subst e; simp [Array.getD_eq_getD_getElem?, Array.getElem?_setIfInBounds, hs, hin]
   · have : (j == i) = false := by simp; omega
     rw [this, Bool.or_false, getD_set_ne false e]
  have hcl' : ∀ j p, (listed.setIfInBounds i true).getD j false = true → ops[j]? = some p → ∀ k ∈ plainOn p, (listed.setIfInBounds i true).getD k false = true := by
   intro j p hj hp k hk; rw [hgs] at hj ⊢; simp only [Bool.or_eq_true, beq_iff_eq] at hj ⊢
   rcases hj with hj | rfl
   · exact .inl (hcl j p hj hp k hk)
   · rw [ho] at hp; simp only [Option.some.injEq] at hp; subst hp; exact .inl (hpl k hk)
  have hlow : ∀ j < i, listed.getD j false = false → Indep ops xs j i := by
   intro j hj hlj
   rcases hd i hin j hj with hanc | hI
   · have := zKH (S := fun j => (listed.setIfInBounds i true).getD j false) hcl' ops.toList [] [] (by simp) rfl (fun j _ i hi => by simp at hi) i (by rw [hgs]; simp) j hanc; rw [hgs, hlj] at this; simp only [Bool.false_or, beq_iff_eq] at this; omega
   · exact hI
  have hhigh : ∀ j, i < j → listed.getD j false = true → j < ops.size → Indep ops xs i j := by
   intro j hj hlj hjn
   rcases hd j hjn i hj with hanc | hI
   · have := zKH (S := fun j => listed.getD j false) hcl ops.toList [] [] (by simp) rfl (fun j _ i hi => by simp at hi) j hlj i hanc; rw [hSi] at this; simp at this
   · exact hI
  have hpre : pre ops xs s0 (fun _ => true) i = pre ops xs s0 (fun j => decide (j < i)) ops.size := by
   rw [zJg (A := fun j => decide (j < i)) (i := i) ops.size (by omega) (fun j hj => by simp; omega)]; exact zG8 i (fun j hj => by simp [hj])
  have hdiff : ∀ j < ops.size, (fun j => listed.getD j false) j ≠ (fun j => decide (j < i)) j → (j < i ∧ listed.getD j false = false) ∨ (i < j ∧ listed.getD j false = true) := by
   intro j hj hne; simp only at hne
   by_cases e : j < i
   · left; refine ⟨e, ?_⟩
     cases hl : listed.getD j false with
     | false => rfl
     | true => exact absurd (by rw [hl]; simp [e]) hne
   · right; have hne' : j ≠ i := by
      intro e2; subst e2; exact hne (by rw [hSi]; simp)
     refine ⟨by omega, ?_⟩
     cases hl : listed.getD j false with
     | true => rfl
     | false => exact absurd (by rw [hl]; simp [e]) hne
  have hob : ∀ id, (id ∈ (logO x).1 ∨ id ∈ (logO x).2) → (pre ops xs s0 (fun j => listed.getD j false) ops.size).ob id = (pre ops xs s0 (fun _ => true) i).ob id := by
   intro id hid; rw [hpre]; refine zRM ops.size (fun j hj hne y hy hmem => ?_); obtain ⟨p, y', hp, hy', _⟩ := hf j hj
   rcases hdiff j hj hne with ⟨e, hl⟩ | ⟨e, hl⟩
   · obtain ⟨_, _, g3, g4⟩ := hlow j e hl p o y x hp ho hy hx
     rcases hid with hid | hid
     · exact (g3 id hmem).1 hid
     · exact (g3 id hmem).2 hid
   · obtain ⟨_, _, g3, g4⟩ := hhigh j e hl hj o p x y ho hp hx hy
     rcases hid with hid | hid
     · exact g4 id hmem hid
     · exact (g3 id hid).2 hmem
  have hout' : outO E fd call ops (pre ops xs s0 (fun j => listed.getD j false) ops.size) o = some x := by
   refine zNu hout (fun t ht => ?_) (fun id hid => hob id (.inl hid)) (fun e he id hid => ?_)
   · rw [hpre]; refine zRL ops.size (fun j hj hne p hp hdst => ?_); obtain ⟨p', y, hp', hy, _⟩ := hf j hj
     rcases hdiff j hj hne with ⟨e, hl⟩ | ⟨e, hl⟩
     · exact ((hlow j e hl p o y x hp ho hy hx).1 t hdst).1 ht
     · exact (hhigh j e hl hj o p x y ho hp hx hy).2.1 t hdst ht
   · subst he; rw [hob id (.inr (by simp only [logO, List.mem_append]; exact .inr hid))]; unfold outO at hout
     split at hout
     · split at hout
       · rw [Option.map_eq_some_iff] at hout; obtain ⟨e', h2, h3⟩ := hout; simp only [Option.some.injEq] at h3; subst h3; exact (jZ (zKq h2)).2 id hid
       · simp at hout
       · simp at hout
     · simp at hout
  refine zFu hop hfix h ho hout' (fun ρ' col' a' w' h' => ?_)
  refine ih (listed.setIfInBounds i true) ρ' col' a' w' (by simpa using hs) ?_ hcl' ?_
  · have : ((List.range ops.size).filter fun j => !(listed.setIfInBounds i true).getD j false).length < ((List.range ops.size).filter fun j => !listed.getD j false).length := by
     refine zHv (i := i) (by rw [hSi]; rfl) (by rw [hgs]; simp) (fun j hj => ?_) _ (List.mem_range.2 hin); rw [hgs] at hj; simp only [Bool.not_or, Bool.and_eq_true] at hj; exact hj.1
    omega
  · have hB : ∀ j, j ≠ i → (listed.setIfInBounds i true).getD j false = listed.getD j false := by
     intro j hj; rw [hgs]; have : (j == i) = false := by simp; omega
     rw [this, Bool.or_false]
    have hBi : (listed.setIfInBounds i true).getD i false = true := by
     rw [hgs]; simp
    have hI : ∀ j, i < j → listed.getD j false = true → Indep ops xs i j := by
     intro j hj hlj
     by_cases hjn : j < ops.size
     · exact hhigh j hj hlj hjn
     · intro o p x y h1 h2; rw [Array.getElem?_eq_none (by omega)] at h2; simp at h2
    have e := zIv (s0 := s0) (A := fun j => listed.getD j false) (B := fun j => (listed.setIfInBounds i true).getD j false) ho hx hSi hBi hB hI ops.size hin; rw [e]; exact h'
end
end Go.Ev
namespace Go.Ev
def Obj.own : Obj → Bool
 | .row .own _ _ => true
 | .box .own _ => true
 | .dead => true
 | _ => false
def Obj.mine : Obj → Bool
 | .row m _ _ => m.mine
 | .box m _ => m.mine
 | .dead => false
inductive Moves (ob' : Objs) (ρ ρ' : Locs) : Obj → Obj → Prop where
 | row {m0 m : Mode} {t : Ty} {xs : List t.den} (h : m0.le m = true) : Moves ob' ρ ρ' (.row m0 t xs) (.row m t xs)
 | box {m0 m : Mode} {x0 x : W} (h : m0.le m = true) (hw : wfW ob' ρ' x) (hc : wcells ρ' x = wcells ρ x0) : Moves ob' ρ ρ' (.box m0 x0) (.box m x)
 | dead {x : Obj} : Moves ob' ρ ρ' x .dead
theorem Elems.flat {w : World} {own own' : Bool} {okE okE' : Nat → Nat → Prop} {t : Ty} {xs : List t.den} {addr : Option Addr} (hf : t.flat = true) (h : Elems w own okE t xs addr) : Elems w own' okE' t xs addr := by
 intro i x hx; obtain ⟨ys, g1, g2⟩ := h i x hx; exact ⟨ys, g1.flat hf w own' (okE' i), g2⟩
theorem ObjRel.move {ob ob' : Objs} {ρ ρ' : Locs} {col col' : Col} {Y Y' : Nat → Prop} {w : World} {o i : Nat} {x x' : Obj} (h : ObjRel ob ρ col Y w o x) (hm : Moves ob' ρ ρ' x x') (hρ : ρ' i = ρ o)
  (hA : x'.mine = true → ∀ b, col b = some (o, 0) → col' b = some (i, 0))
  (hB : ∀ (t : Ty) (xs : List t.den), x' = .row .own t xs → t.flat = false → ∀ b k, col b = some (o, k + 1) → col' b = some (i, k + 1))
  (hC : x'.own = false → ∀ b, RO col Y b → RO col' Y' b)
  (hD : x'.own = false → ∀ b k, col b = some (o, k + 1) → RO col' Y' b)
  (hE : x.mine = true → x'.own = false → x'.mine = false → ∀ b, col b = some (o, 0) → RO col' Y' b) : ObjRel ob' ρ' col' Y' w i x' := by
 cases hm with
 | dead => trivial
 | @box m0 m x0 x hle hw hc =>
  obtain ⟨b, h1, h2, h3, h4, h5, h6, h7⟩ := h
  refine ⟨b, by rw [hρ]; exact h1, h2, hw, by rw [hρ, hc]; exact h4, by rw [hc]; exact h5, ?_, fun hmm => ?_⟩
  · cases m with
    | own => cases m0 <;> first | exact hA rfl b h6 | simp [Mode.le] at hle
    | sh => cases m0 <;> first | exact hA rfl b h6 | simp [Mode.le] at hle
    | ro => cases m0 with
     | own => exact hE rfl rfl rfl b h6
     | sh => exact hE rfl rfl rfl b h6
     | ro => exact hC rfl b h6
  · rw [hρ]; refine h7 ?_
    cases m <;> cases m0 <;> simp_all [Mode.le, Mode.mine]
 | @row m0 m t xs hle =>
  obtain ⟨h1, h2, h3⟩ := h; have hmine : m.mine = true → m0.mine = true := by cases m <;> cases m0 <;> simp_all [Mode.le, Mode.mine]
  refine ⟨by rw [hρ]; exact h1, ?_, ?_⟩
  · rw [hρ]; refine h2.frame hmine (Nat.le_refl _) (fun b hb hok => ⟨?_, rfl⟩)
    cases m with
    | own => cases m0 <;> first | exact hA rfl b hok | simp [Mode.le] at hle
    | sh => cases m0 <;> first | exact hA rfl b hok | simp [Mode.le] at hle
    | ro => cases m0 with
     | own => exact hE rfl rfl rfl b hok
     | sh => exact hE rfl rfl rfl b hok
     | ro => exact hC rfl b hok
  · rw [hρ]
    cases m with
    | own =>
     have : m0 = .own := by cases m0 <;> simp_all [Mode.le]
     subst this
     cases hf : t.flat with
     | true => exact h3.flat hf
     | false => exact h3.frame id (Nat.le_refl _) (fun k _ b _ hok => ⟨hB t xs rfl hf b k hok, rfl⟩) (fun _ _ _ => rfl)
    | sh =>
     refine h3.frame (by cases m0 <;> simp [Mode.deep]) (Nat.le_refl _) (fun k _ b _ hok => ⟨?_, rfl⟩) (fun _ _ _ => rfl)
     cases m0 with
     | own => exact hD rfl b k hok
     | sh => exact hC rfl b hok
     | ro => exact hC rfl b hok
    | ro =>
     refine h3.frame (by cases m0 <;> simp [Mode.deep]) (Nat.le_refl _) (fun k _ b _ hok => ⟨?_, rfl⟩) (fun _ _ _ => rfl)
     cases m0 with
     | own => exact hD rfl b k hok
     | sh => exact hC rfl b hok
     | ro => exact hC rfl b hok
theorem ObjRel.moveBox {ob ob' : Objs} {ρ ρ' : Locs} {col col' : Col} {Y Y' : Nat → Prop} {w : World} {o i : Nat} {x0 x : W} (h : ObjRel ob ρ col Y w o (.box .own x0)) (hw : wfW ob' ρ' x) (hc : wcells ρ' x = wcells ρ x0)
  (hρ : (ρ' i).addr = (ρ o).addr) (hl : (ρ' i).len = (ρ o).len) (hA : ∀ b, col b = some (o, 0) → col' b = some (i, 0)) : ObjRel ob' ρ' col' Y' w i (.box .own x) := by
 obtain ⟨b, h1, h2, h3, h4, h5, h6, h7⟩ := h; exact ⟨b, by rw [hρ]; exact h1, h2, hw, by rw [hl, hc]; exact h4, by rw [hc]; exact h5, hA b h6, fun hm => by rw [hl]; exact h7 hm⟩
theorem ObjRel.nil {ob : Objs} {ρ : Locs} {col : Col} {Y : Nat → Prop} {w : World} {i : Nat} {m : Mode} {t : Ty} (hρ : ρ i = ⟨none, 0, 0⟩) : ObjRel ob ρ col Y w i (.row m t []) := by
 refine ⟨by rw [hρ]; rfl, ?_, fun k x hx => by simp at hx⟩; rw [hρ]; exact ⟨Nat.le_refl _, fun _ => ⟨rfl, fun _ => rfl⟩, fun a h => by simp at h⟩
abbrev Names := Nat → Option (Option Nat)
def Names.loc (β : Names) (ρ : Locs) : Locs := fun i => match β i with
 | some (some o) => ρ o
 | _ => ⟨none, 0, 0⟩
def RelC (β : Names) : C → C → Prop
 | .int k n, c => c = .int k n
 | .bool b, c => c = .bool b
 | .nil, c => ∃ i, c = .sl i ∧ β i = some none
 | .sl o, c => ∃ i, c = .sl i ∧ β i = some (some o)
 | .ptr o i es j, c => i = 0 ∧ es = 0 ∧ j = 0 ∧ ∃ n, c = .ptr n 0 0 0 ∧ β n = some (some o)
def RelCs (β : Names) : List C → List C → Prop
 | [], [] => True
 | c :: cs, d :: ds => RelC β c d ∧ RelCs β cs ds
 | _, _ => False
def RelW (β : Names) : W → W → Prop
 | .c c, w => ∃ d, w = .c d ∧ RelC β c d
 | .arr k m xs, w => w = .arr k m xs
 | .barr m xs, w => w = .barr m xs
 | .st cs, w => ∃ ds, w = .st ds ∧ RelCs β cs ds
def RelWs (β : Names) : List W → List W → Prop
 | [], [] => True
 | c :: cs, d :: ds => RelW β c d ∧ RelWs β cs ds
 | _, _ => False
section
variable {β : Names} {ob ob' : Objs} {ρ ρ' : Locs} (hρ : ∀ i, β i ≠ none → ρ' i = β.loc ρ i) (hob : ∀ i, β i ≠ none → ob' i ≠ none)
include hρ hob
theorem RelC.val {c d : C} (h : RelC β c d) (hw : wfC ob ρ c) : wfC ob' ρ' d ∧ cval ρ' d = cval ρ c := by
 cases c with
 | int k n => simp only [RelC] at h; subst h; exact ⟨trivial, rfl⟩
 | bool b => simp only [RelC] at h; subst h; exact ⟨trivial, rfl⟩
 | nil =>
  obtain ⟨i, rfl, hi⟩ := h; have hi' : β i ≠ none := by rw [hi]; simp
  exact ⟨hob i hi', by simp only [cval, hρ i hi', Names.loc, hi]⟩
 | sl o =>
  obtain ⟨i, rfl, hi⟩ := h; have hi' : β i ≠ none := by rw [hi]; simp
  exact ⟨hob i hi', by simp only [cval, hρ i hi', Names.loc, hi]⟩
 | ptr o i es j =>
  obtain ⟨rfl, rfl, rfl, n, rfl, hn⟩ := h; have hn' : β n ≠ none := by rw [hn]; simp
  have this := hob n hn'; have e : ρ' n = ρ o := by rw [hρ n hn']; simp only [Names.loc, hn]
  obtain ⟨h1, h2, h3⟩ := hw; exact ⟨⟨this, by rw [e]; exact h2, by rw [e]; exact h3⟩, by simp only [cval, e]⟩
theorem RelCs.val : ∀ {cs ds : List C}, RelCs β cs ds → (∀ c ∈ cs, wfC ob ρ c) → (∀ d ∈ ds, wfC ob' ρ' d) ∧ ds.map (cval ρ') = cs.map (cval ρ)
 | [], [], _, _ => ⟨fun d hd => by simp at hd, rfl⟩
 | c :: cs, d :: ds, h, hw => by
  obtain ⟨h1, h2⟩ := h; obtain ⟨g1, g2⟩ := RelC.val hρ hob h1 (hw c (by simp)); obtain ⟨k1, k2⟩ := RelCs.val h2 (fun c hc => hw c (by simp [hc])); refine ⟨fun e he => ?_, by simp [g2, k2]⟩
  rcases List.mem_cons.1 he with rfl | he
  · exact g1
  · exact k1 e he
 | [], _ :: _, h, _ => h.elim
 | _ :: _, [], h, _ => h.elim
theorem RelW.val {x y : W} (h : RelW β x y) (hw : wfW ob ρ x) : wfW ob' ρ' y ∧ wcells ρ' y = wcells ρ x ∧ wval ρ' y = wval ρ x := by
 cases x with
 | c c =>
  obtain ⟨d, rfl, hd⟩ := h; obtain ⟨g1, g2⟩ := RelC.val hρ hob hd hw; exact ⟨g1, by simp only [wcells, g2], by simp only [wval, g2]⟩
 | arr k m xs => simp only [RelW] at h; subst h; exact ⟨hw, rfl, rfl⟩
 | barr m xs => simp only [RelW] at h; subst h; exact ⟨hw, rfl, rfl⟩
 | st cs =>
  obtain ⟨ds, rfl, hd⟩ := h; obtain ⟨g1, g2⟩ := RelCs.val hρ hob hd hw; exact ⟨g1, by simp only [wcells, g2], by simp only [wval, wcells, g2]⟩
theorem RelWs.val : ∀ {xs ys : List W}, RelWs β xs ys → (∀ x ∈ xs, wfW ob ρ x) → (∀ y ∈ ys, wfW ob' ρ' y) ∧ ys.map (wval ρ') = xs.map (wval ρ)
 | [], [], _, _ => ⟨fun d hd => by simp at hd, rfl⟩
 | c :: cs, d :: ds, h, hw => by
  obtain ⟨h1, h2⟩ := h; obtain ⟨g1, _, g2⟩ := RelW.val hρ hob h1 (hw c (by simp)); obtain ⟨k1, k2⟩ := RelWs.val h2 (fun c hc => hw c (by simp [hc])); refine ⟨fun e he => ?_, by simp [g2, k2]⟩
  rcases List.mem_cons.1 he with rfl | he
  · exact g1
  · exact k1 e he
 | [], _ :: _, h, _ => h.elim
 | _ :: _, [], h, _ => h.elim
end
end Go.Ev
namespace Go.Ev
theorem zO {t : Ty} {x : t.den} {l r : List TV} : getTV t (l ++ [⟨t, x⟩] ++ r) l.length = x := by
 unfold getTV; have : (l ++ [⟨t, x⟩] ++ r)[l.length]? = some (⟨t, x⟩ : TV) := by simp
 rw [this]; simp
def Ext (b b' : Bind) : Prop := ∀ i x, b.lookup i = some x → b'.lookup i = some x
theorem Ext.refl (b : Bind) : Ext b b := fun _ _ h => h
theorem Ext.trans {a b c : Bind} (h : Ext a b) (g : Ext b c) : Ext a c := fun i x hx => g i x (h i x hx)
theorem zEi {b b' : Bind} {i : Nat} {o : Option Nat} (h : bindTo b i o = some b') : Ext b b' ∧ b'.lookup i = some o := by
 unfold bindTo at h
 split at h
 · rename_i hl; simp only [Option.some.injEq] at h; subst h; refine ⟨fun j x hj => ?_, by simp⟩
   by_cases e : j = i
   · subst e; rw [hl] at hj; simp at hj
   · rw [List.lookup_cons]; have : (j == i) = false := by simpa using e
     rw [this]; exact hj
 · rename_i o' hl
   split at h
   · rename_i e; simp only [Option.some.injEq] at h; subst h; exact ⟨Ext.refl _, by rw [hl, e]⟩
   · simp at h
def Bind.names (b : Bind) : Names := fun i => b.lookup i
theorem CS.fit_spec {s : CS} {c : C} {b b' : Bind} {xs : List TV} (h : s.fit c b = some (xs, b')) :
  Ext b b' ∧ ∀ bf, Ext b' bf → ∀ l r, ∃ c', s.build (l ++ xs ++ r) l.length = (c', l.length + xs.length) ∧ RelC bf.names c c' := by
 cases s with
 | int k =>
  cases c <;> simp only [CS.fit] at h <;> try (simp at h; done)
  split at h
  · rename_i hk; subst hk; simp only [Option.some.injEq, Prod.mk.injEq] at h; obtain ⟨rfl, rfl⟩ := h; exact ⟨Ext.refl _, fun bf _ l r => ⟨_, by simp only [CS.build, zO]; rfl, rfl⟩⟩
  · simp at h
 | bool =>
  cases c <;> simp only [CS.fit] at h <;> try (simp at h; done)
  simp only [Option.some.injEq, Prod.mk.injEq] at h; obtain ⟨rfl, rfl⟩ := h; exact ⟨Ext.refl _, fun bf _ l r => ⟨_, by simp only [CS.build, zO]; rfl, rfl⟩⟩
 | sl i =>
  cases c with
  | sl o =>
   simp only [CS.fit, Option.map_eq_some_iff] at h; obtain ⟨b1, hb, h⟩ := h; simp only [Prod.mk.injEq] at h; obtain ⟨rfl, rfl⟩ := h; obtain ⟨g1, g2⟩ := zEi hb; exact ⟨g1, fun bf hbf l r => ⟨_, rfl, i, rfl, hbf _ _ g2⟩⟩
  | nil =>
   simp only [CS.fit, Option.map_eq_some_iff] at h; obtain ⟨b1, hb, h⟩ := h; simp only [Prod.mk.injEq] at h; obtain ⟨rfl, rfl⟩ := h; obtain ⟨g1, g2⟩ := zEi hb; exact ⟨g1, fun bf hbf l r => ⟨_, rfl, i, rfl, hbf _ _ g2⟩⟩
  | _ => simp [CS.fit] at h
 | ptr i =>
  cases c with
  | ptr o n es j =>
   match n, es, j, h with
   | 0, 0, 0, h =>
    simp only [CS.fit, Option.map_eq_some_iff] at h; obtain ⟨b1, hb, h⟩ := h; simp only [Prod.mk.injEq] at h; obtain ⟨rfl, rfl⟩ := h; obtain ⟨g1, g2⟩ := zEi hb; exact ⟨g1, fun bf hbf l r => ⟨_, rfl, rfl, rfl, rfl, i, rfl, hbf _ _ g2⟩⟩
   | n + 1, _, _, h => simp [CS.fit] at h
   | 0, es + 1, _, h => simp [CS.fit] at h
   | 0, 0, j + 1, h => simp [CS.fit] at h
  | _ => simp [CS.fit] at h
theorem zI7 : ∀ {ss : List CS} {cs : List C} {b b' : Bind} {xs : List TV}, fitCs ss cs b = some (xs, b') →
  Ext b b' ∧ ∀ bf, Ext b' bf → ∀ l r, ∃ ds, buildCs (l ++ xs ++ r) ss l.length = (ds, l.length + xs.length) ∧ RelCs bf.names cs ds
 | [], [], b, b', xs, h => by
  simp only [fitCs, Option.some.injEq, Prod.mk.injEq] at h; obtain ⟨rfl, rfl⟩ := h; exact ⟨Ext.refl _, fun bf _ l r => ⟨[], rfl, trivial⟩⟩
 | [], _ :: _, b, b', xs, h => by simp [fitCs] at h
 | _ :: _, [], b, b', xs, h => by simp [fitCs] at h
 | s :: ss, c :: cs, b, b', xs, h => by
  simp only [fitCs] at h
  split at h
  · rename_i x b1 h1
    split at h
    · rename_i y b2 h2; simp only [Option.some.injEq, Prod.mk.injEq] at h; obtain ⟨rfl, rfl⟩ := h; obtain ⟨e1, f1⟩ := CS.fit_spec h1; obtain ⟨e2, f2⟩ := zI7 h2; refine ⟨e1.trans e2, fun bf hbf l r => ?_⟩; obtain ⟨c', k1, k2⟩ := f1 bf (e2.trans hbf) l (y ++ r); obtain ⟨ds, m1, m2⟩ := f2 bf hbf (l ++ x) r; refine ⟨c' :: ds, ?_, k2, m2⟩; have e : l ++ (x ++ y) ++ r = l ++ x ++ (y ++ r) := by simp
      have e' : l ++ (x ++ y) ++ r = l ++ x ++ y ++ r := by simp
      simp only [buildCs]; rw [show CS.build (l ++ (x ++ y) ++ r) s l.length = (c', l.length + x.length) from by rw [e]; exact k1]; simp only; rw [show buildCs (l ++ (x ++ y) ++ r) ss (l.length + x.length) = (ds, (l ++ x).length + y.length) from by rw [e', ← List.length_append]; exact m1]; simp [Nat.add_assoc]
    · simp at h
  · simp at h
theorem WS.fit_spec {s : WS} {x : W} {b b' : Bind} {xs : List TV} (h : s.fit x b = some (xs, b')) :
  Ext b b' ∧ ∀ bf, Ext b' bf → ∀ l r, ∃ y, s.build (l ++ xs ++ r) l.length = (y, l.length + xs.length) ∧ RelW bf.names x y := by
 cases s with
 | c s =>
  cases x <;> simp only [WS.fit] at h <;> try (simp at h; done)
  obtain ⟨e, f⟩ := CS.fit_spec h; refine ⟨e, fun bf hbf l r => ?_⟩; obtain ⟨c', k1, k2⟩ := f bf hbf l r; exact ⟨.c c', by simp only [WS.build, k1], c', rfl, k2⟩
 | arr k m =>
  cases x <;> simp only [WS.fit] at h <;> try (simp at h; done)
  split at h
  · rename_i hk; obtain ⟨rfl, rfl⟩ := hk; simp only [Option.some.injEq, Prod.mk.injEq] at h; obtain ⟨rfl, rfl⟩ := h; exact ⟨Ext.refl _, fun bf _ l r => ⟨_, by simp only [WS.build, zO]; rfl, rfl⟩⟩
  · simp at h
 | barr m =>
  cases x <;> simp only [WS.fit] at h <;> try (simp at h; done)
  split at h
  · rename_i hk; subst hk; simp only [Option.some.injEq, Prod.mk.injEq] at h; obtain ⟨rfl, rfl⟩ := h; exact ⟨Ext.refl _, fun bf _ l r => ⟨_, by simp only [WS.build, zO]; rfl, rfl⟩⟩
  · simp at h
 | st ss =>
  cases x <;> simp only [WS.fit] at h <;> try (simp at h; done)
  obtain ⟨e, f⟩ := zI7 h; refine ⟨e, fun bf hbf l r => ?_⟩; obtain ⟨c', k1, k2⟩ := f bf hbf l r; exact ⟨.st c', by simp only [WS.build, k1], c', rfl, k2⟩
theorem zI4 : ∀ {ss : List WS} {cs : List W} {b b' : Bind} {xs : List TV}, fitWs ss cs b = some (xs, b') →
  Ext b b' ∧ ∀ bf, Ext b' bf → ∀ l r, ∃ ds, buildWs (l ++ xs ++ r) ss l.length = (ds, l.length + xs.length) ∧ RelWs bf.names cs ds
 | [], [], b, b', xs, h => by
  simp only [fitWs, Option.some.injEq, Prod.mk.injEq] at h; obtain ⟨rfl, rfl⟩ := h; exact ⟨Ext.refl _, fun bf _ l r => ⟨[], rfl, trivial⟩⟩
 | [], _ :: _, b, b', xs, h => by simp [fitWs] at h
 | _ :: _, [], b, b', xs, h => by simp [fitWs] at h
 | s :: ss, c :: cs, b, b', xs, h => by
  simp only [fitWs] at h
  split at h
  · rename_i x b1 h1
    split at h
    · rename_i y b2 h2; simp only [Option.some.injEq, Prod.mk.injEq] at h; obtain ⟨rfl, rfl⟩ := h; obtain ⟨e1, f1⟩ := WS.fit_spec h1; obtain ⟨e2, f2⟩ := zI4 h2; refine ⟨e1.trans e2, fun bf hbf l r => ?_⟩; obtain ⟨c', k1, k2⟩ := f1 bf (e2.trans hbf) l (y ++ r); obtain ⟨ds, m1, m2⟩ := f2 bf hbf (l ++ x) r; refine ⟨c' :: ds, ?_, k2, m2⟩; have e : l ++ (x ++ y) ++ r = l ++ x ++ (y ++ r) := by simp
      have e' : l ++ (x ++ y) ++ r = l ++ x ++ y ++ r := by simp
      simp only [buildWs]; rw [show WS.build (l ++ (x ++ y) ++ r) s l.length = (c', l.length + x.length) from by rw [e]; exact k1]; simp only; rw [show buildWs (l ++ (x ++ y) ++ r) ss (l.length + x.length) = (ds, (l ++ x).length + y.length) from by rw [e', ← List.length_append]; exact m1]; simp [Nat.add_assoc]
    · simp at h
  · simp at h
def RelV (β : Names) : V → V → Prop
 | .w x, v => ∃ y, v = .w y ∧ RelW β x y
 | .fn f ws, v => ∃ ys, v = .fn f ys ∧ RelWs β ws ys
 | _, _ => False
theorem VS.fit_spec {s : VS} {x : V} {b b' : Bind} {xs : List TV} (h : s.fit x b = some (xs, b')) :
  Ext b b' ∧ ∀ bf, Ext b' bf → ∀ l r, ∃ y, s.build (l ++ xs ++ r) l.length = (y, l.length + xs.length) ∧ RelV bf.names x y := by
 cases s with
 | w s =>
  cases x <;> simp only [VS.fit] at h <;> try (simp at h; done)
  obtain ⟨e, f⟩ := WS.fit_spec h; refine ⟨e, fun bf hbf l r => ?_⟩; obtain ⟨c', k1, k2⟩ := f bf hbf l r; exact ⟨.w c', by simp only [VS.build, k1], c', rfl, k2⟩
 | fn f ss =>
  cases x <;> simp only [VS.fit] at h <;> try (simp at h; done)
  split at h
  · rename_i hg; subst hg; obtain ⟨e, f⟩ := zI4 h; refine ⟨e, fun bf hbf l r => ?_⟩; obtain ⟨c', k1, k2⟩ := f bf hbf l r; exact ⟨.fn _ c', by simp only [VS.build, k1], c', rfl, k2⟩
  · simp at h
theorem zI5 {tm : List V} {n : Nat} : ∀ {ss : List (Nat × VS)} {b b' : Bind} {xs : List TV}, fitVs tm ss b = some (xs, b') →
  Ext b b' ∧ ∀ bf, Ext b' bf → ∀ l r (tn : List V), tn.length = n → (∀ i v, tn[i]? = some v → v = .undef ∨ RelV bf.names (tm.getD i .undef) v) →
   (buildVs (l ++ xs ++ r) ss l.length tn).length = n ∧ ∀ i v, (buildVs (l ++ xs ++ r) ss l.length tn)[i]? = some v → v = .undef ∨ RelV bf.names (tm.getD i .undef) v
 | [], b, b', xs, h => by
  simp only [fitVs, Option.some.injEq, Prod.mk.injEq] at h; obtain ⟨rfl, rfl⟩ := h; exact ⟨Ext.refl _, fun bf _ l r tn h1 h2 => ⟨h1, h2⟩⟩
 | (t, s) :: ss, b, b', xs, h => by
  simp only [fitVs] at h
  split at h
  · rename_i x b1 h1
    split at h
    · rename_i y b2 h2; simp only [Option.some.injEq, Prod.mk.injEq] at h; obtain ⟨rfl, rfl⟩ := h; obtain ⟨e1, f1⟩ := VS.fit_spec h1; obtain ⟨e2, f2⟩ := zI5 (n := n) h2; refine ⟨e1.trans e2, fun bf hbf l r tn g1 g2 => ?_⟩; obtain ⟨c', k1, k2⟩ := f1 bf (e2.trans hbf) l (y ++ r); have e : l ++ (x ++ y) ++ r = l ++ x ++ (y ++ r) := by simp
      have e' : l ++ (x ++ y) ++ r = l ++ x ++ y ++ r := by simp
      have := f2 bf hbf (l ++ x) r (tn.set t c') (by simpa using g1) (fun i v hi => by
       rw [List.getElem?_set] at hi
       split at hi
       · rename_i hti; subst hti
         split at hi
         · simp only [Option.some.injEq] at hi; subst hi; exact .inr k2
         · simp at hi
       · exact g2 i v hi)
      simp only [buildVs]; rw [show VS.build (l ++ (x ++ y) ++ r) s l.length = (c', l.length + x.length) from by rw [e]; exact k1]; simp only; rw [e', ← List.length_append]; exact this
    · simp at h
  · simp at h
def ObjFit (ob : Objs) (β : Names) (i : Nat) : OS → Obj → Prop
 | .row m t, y => (β i = some none ∧ y = .row m t []) ∨ ∃ o m' xs, β i = some (some o) ∧ ob o = some (.row m' t xs) ∧ m'.le m = true ∧ y = .row m t xs
 | .box m _, y => ∃ o m' x0 x, β i = some (some o) ∧ ob o = some (.box m' x0) ∧ m'.le m = true ∧ RelW β x0 x ∧ y = .box m x
theorem OS.fit_spec {ob : Objs} {i : Nat} {s : OS} {b b' : Bind} {xs : List TV} (h : s.fit ob i b = some (xs, b')) :
  Ext b b' ∧ ∀ bf, Ext b' bf → ∀ l r, ∃ y, s.build (l ++ xs ++ r) l.length = (y, l.length + xs.length) ∧ ObjFit ob bf.names i s y := by
 cases s with
 | row m t =>
  simp only [OS.fit] at h
  split at h
  · rename_i o hl
    split at h
    · rename_i m' ys hr
      split at h
      · rename_i hle; simp only [Option.some.injEq, Prod.mk.injEq] at h; obtain ⟨rfl, rfl⟩ := h; refine ⟨Ext.refl _, fun bf hbf l r => ⟨_, ?_, .inr ⟨o, m', ys, hbf _ _ hl, zK hr, hle, rfl⟩⟩⟩; simp only [OS.build]; rw [show getTV (.slice t) (l ++ [⟨.slice t, ys⟩] ++ r) l.length = ys from zO (t := .slice t)]
        rfl
      · simp at h
    · simp at h
  · rename_i hl; simp only [Option.some.injEq, Prod.mk.injEq] at h; obtain ⟨rfl, rfl⟩ := h; refine ⟨Ext.refl _, fun bf hbf l r => ⟨_, ?_, .inl ⟨hbf _ _ hl, rfl⟩⟩⟩; simp only [OS.build]; rw [show getTV (.slice t) (l ++ [⟨.slice t, []⟩] ++ r) l.length = [] from zO (t := .slice t)]
    rfl
  · simp at h
 | box m s =>
  simp only [OS.fit] at h
  split at h
  · rename_i o hl
    split at h
    · rename_i m' x0 hb
      split at h
      · rename_i hle; obtain ⟨e, f⟩ := WS.fit_spec h; refine ⟨e, fun bf hbf l r => ?_⟩; obtain ⟨c', k1, k2⟩ := f bf hbf l r; exact ⟨.box m c', by simp only [OS.build, k1], o, m', x0, c', hbf _ _ (e _ _ hl), hb, hle, k2, rfl⟩
      · simp at h
    · simp at h
  · simp at h
theorem zI6 {ob : Objs} : ∀ {ss : List OS} {i : Nat} {b b' : Bind} {xs : List TV}, fitOs ob ss i b = some (xs, b') →
  Ext b b' ∧ ∀ bf, Ext b' bf → ∀ l r, ∃ ys : List Obj, buildOs (l ++ xs ++ r) ss i l.length = ((List.range' i ss.length).zip ys, l.length + xs.length) ∧ ys.length = ss.length ∧
   ∀ k s y, ss[k]? = some s → ys[k]? = some y → ObjFit ob bf.names (i + k) s y
 | [], i, b, b', xs, h => by
  simp only [fitOs, Option.some.injEq, Prod.mk.injEq] at h; obtain ⟨rfl, rfl⟩ := h; exact ⟨Ext.refl _, fun bf _ l r => ⟨[], rfl, rfl, fun k s y h => by simp at h⟩⟩
 | s :: ss, i, b, b', xs, h => by
  simp only [fitOs] at h
  split at h
  · rename_i x b1 h1
    split at h
    · rename_i y b2 h2; simp only [Option.some.injEq, Prod.mk.injEq] at h; obtain ⟨rfl, rfl⟩ := h; obtain ⟨e1, f1⟩ := OS.fit_spec h1; obtain ⟨e2, f2⟩ := zI6 h2; refine ⟨e1.trans e2, fun bf hbf l r => ?_⟩; obtain ⟨c', k1, k2⟩ := f1 bf (e2.trans hbf) l (y ++ r); obtain ⟨ds, m1, m2, m3⟩ := f2 bf hbf (l ++ x) r
      refine ⟨c' :: ds, ?_, by simp [m2], fun k s' z hs hz => ?_⟩
      · have e : l ++ (x ++ y) ++ r = l ++ x ++ (y ++ r) := by simp
        have e' : l ++ (x ++ y) ++ r = l ++ x ++ y ++ r := by simp
        simp only [buildOs]; rw [show OS.build (l ++ (x ++ y) ++ r) s l.length = (c', l.length + x.length) from by rw [e]; exact k1]; simp only; rw [show buildOs (l ++ (x ++ y) ++ r) ss (i + 1) (l.length + x.length) = ((List.range' (i + 1) ss.length).zip ds, (l ++ x).length + y.length) from by rw [e', ← List.length_append]; exact m1]; simp [Nat.add_assoc, List.range'_succ]
      · cases k with
        | zero =>
         simp only [List.getElem?_cons_zero, Option.some.injEq] at hs hz; subst hs; subst hz; exact k2
        | succ k =>
         have := m3 k s' z (by simpa using hs) (by simpa using hz); rwa [show i + 1 + k = i + (k + 1) by omega] at this
    · simp at h
  · simp at h
theorem zMr : ∀ (ys : List Obj) (i : Nat) (f : Objs) (k : Nat), (f.upds ((List.range' i ys.length).zip ys)) k = if i ≤ k ∧ k < i + ys.length then ys[k - i]? else f k
 | [], i, f, k => by simp [Objs.upds]; omega
 | y :: ys, i, f, k => by
  rw [List.length_cons, List.range'_succ, List.zip_cons_cons]; simp only [Objs.upds]; rw [zMr ys (i + 1) _ k]
  by_cases e : k = i
  · subst e; rw [if_neg (by omega), if_pos (by omega)]; simp [Objs.upd]
  · by_cases h : i + 1 ≤ k ∧ k < i + 1 + ys.length
    · rw [if_pos h, if_pos (by omega), show k - i = (k - (i + 1)) + 1 by omega]; simp
    · rw [if_neg h, if_neg (by omega)]; simp [Objs.upd, e]
end Go.Ev
namespace Go.Ev
section
variable {w0 : World} {X Y0 : Nat → Prop} {fix : List (Nat × Value)} {s : St} {ρ : Locs} {col : Col} {a : Act} {w : World}
theorem zFT {f : Nat → Option Nat} {o : Nat} : ∀ {l : List Nat}, (l.filterMap f).Nodup → ∀ {i j : Nat}, i ∈ l → j ∈ l → f i = some o → f j = some o → i = j
 | [], _, i, j, hi, _, _, _ => by simp at hi
 | k :: l, h, i, j, hi, hj, fi, fj => by
  rw [List.filterMap_cons] at h
  rcases List.mem_cons.1 hi with rfl | hi'
  · rcases List.mem_cons.1 hj with rfl | hj'
    · rfl
    · rw [fi] at h; simp only [List.nodup_cons] at h; exact absurd (List.mem_filterMap.2 ⟨j, hj', fj⟩) h.1
  · rcases List.mem_cons.1 hj with rfl | hj'
    · rw [fj] at h; simp only [List.nodup_cons] at h; exact absurd (List.mem_filterMap.2 ⟨i, hi', fi⟩) h.1
    · refine zFT (l := l) ?_ hi' hj' fi fj
      cases hk : f k with
      | none => rw [hk] at h; exact h
      | some x => rw [hk] at h; exact (List.nodup_cons.1 h).2
theorem RelV.rel {β : Names} {ob ob' : Objs} {ρ ρ' : Locs} (hρ : ∀ i, β i ≠ none → ρ' i = β.loc ρ i) (hob : ∀ i, β i ≠ none → ob' i ≠ none) {v v' : V} {x : Value} (h : RelV β v v') (hv : VRel ob ρ v x) : VRel ob' ρ' v' x := by
 rcases hv with rfl | ⟨hw, rfl⟩
 · exact h.elim
 · cases v with
   | undef => exact h.elim
   | tup vs => exact h.elim
   | w y =>
    obtain ⟨z, rfl, hz⟩ := h; obtain ⟨g1, _, g2⟩ := RelW.val hρ hob hz hw; exact .inr ⟨g1, by simp only [vval, g2]⟩
   | fn f ws =>
    obtain ⟨zs, rfl, hz⟩ := h; obtain ⟨g1, g2⟩ := RelWs.val hρ hob hz hw; exact .inr ⟨g1, by simp only [vval, g2]⟩
theorem zCa (h : Inv w0 X Y0 fix s ρ col a w) {sh : Shape} {tvs : List TV} (hf : sh.fit s = some tvs) (l : List TV) :
  ∃ ρ' col', Inv w0 X Y0 fix (sh.build s.tm.length (l ++ tvs) l.length) ρ' col' a w := by
 unfold Shape.fit at hf
 split at hf
 · rename_i ys b hvs
   split at hf
   · rename_i xs b' hos
     split at hf
     · rename_i hc; simp only [Option.some.injEq] at hf; subst hf; simp only [Bool.and_eq_true, decide_eq_true_eq, List.all_eq_true] at hc; obtain ⟨⟨hn, hap⟩, hlt⟩ := hc; obtain ⟨e1, f1⟩ := zI5 (n := s.tm.length) hvs; obtain ⟨e2, f2⟩ := zI6 hos; obtain ⟨os, k1, k2, k3⟩ := f2 b' (Ext.refl _) l ys; obtain ⟨m1, m2⟩ := f1 b' e2 (l ++ xs) [] (List.replicate s.tm.length .undef) (by simp) (fun i v hi => by
        rw [List.getElem?_replicate] at hi
        split at hi
        · simp only [Option.some.injEq] at hi; exact .inl hi.symm
        · simp at hi)
       have hbuild : sh.build s.tm.length (l ++ (xs ++ ys)) l.length = ⟨buildVs (l ++ xs ++ ys ++ []) sh.slots (l ++ xs).length (List.replicate s.tm.length .undef), Objs.none.upds ((List.range' 0 sh.objs.length).zip os)⟩ := by
        simp only [Shape.build]; rw [show l ++ (xs ++ ys) = l ++ xs ++ ys by simp, k1]; simp
       rw [hbuild]; have hob : ∀ k, (Objs.none.upds ((List.range' 0 sh.objs.length).zip os)) k = if k < sh.objs.length then os[k]? else none := by
        intro k; rw [← k2, zMr os 0 _ k]; simp [Objs.none]
       generalize Objs.none.upds ((List.range' 0 sh.objs.length).zip os) = ob' at hob; have hβ : ∀ i x, b'.lookup i = some x → i < sh.objs.length := by
        intro i x hx; have : ∃ p ∈ b', p.1 = i := by
         have key : ∀ b : Bind, b.lookup i = some x → ∃ p ∈ b, p.1 = i := by
          intro b
          induction b with
          | nil => intro h; simp at h
          | cons p b ih =>
           intro h; rw [List.lookup_cons] at h
           split at h
           · rename_i hp; exact ⟨p, by simp, (beq_iff_eq.1 hp).symm⟩
           · obtain ⟨q, hq, e⟩ := ih h; exact ⟨q, by simp [hq], e⟩
         exact key b' hx
        obtain ⟨p, hp, rfl⟩ := this; exact hlt p hp
       have hobn : ∀ i, b'.names i ≠ none → ob' i ≠ none := by
        intro i hi
        cases hx : b'.lookup i with
        | none => exact absurd hx hi
        | some x =>
         have hil := hβ i x hx; rw [hob i, if_pos hil, List.getElem?_eq_getElem (by omega)]; simp
       have hobj : ∀ i y, ob' i = some y → ∃ sp, sh.objs[i]? = some sp ∧ ObjFit s.ob b'.names i sp y := by
        intro i y hy; rw [hob] at hy
        split at hy
        · rename_i hil; refine ⟨sh.objs[i], List.getElem?_eq_getElem hil, ?_⟩; have := k3 i _ y (List.getElem?_eq_getElem hil) hy; rwa [Nat.zero_add] at this
        · simp at hy
       let isMine : Nat → Bool := fun i => ((sh.objs[i]?).map OS.mine).getD false
       let γ : Nat → Option Nat := fun o => (List.range sh.objs.length).find? fun i => isMine i && (b'.lookup i == some (some o))
       let col' : Col := fun q => match col q with
        | some (o, c) => (γ o).map fun i => (i, c)
        | none => none
       have hγ : ∀ {o i}, γ o = some i → isMine i = true ∧ b'.lookup i = some (some o) ∧ i < sh.objs.length := by
        intro o i hi; have h1 := List.find?_some hi; have h2 := List.mem_of_find?_eq_some hi; simp only [Bool.and_eq_true, beq_iff_eq] at h1; exact ⟨h1.1, h1.2, List.mem_range.1 h2⟩
       have hmine1 : ∀ {o i}, isMine i = true → b'.lookup i = some (some o) → (fun i => if ((sh.objs[i]?).map OS.mine).getD false then (b'.lookup i).getD none else none) i = some o := by
        intro o i h1 h2; simp only [isMine] at h1; simp only [h1, if_true, h2, Option.getD_some]
       have hγ2 : ∀ {o i}, isMine i = true → b'.lookup i = some (some o) → γ o = some i := by
        intro o i h1 h2; have hil := hβ i _ h2
        cases hg : γ o with
        | none =>
         have := List.find?_eq_none.1 hg i (List.mem_range.2 hil); simp [h1, h2] at this
        | some j =>
         obtain ⟨g1, g2, g3⟩ := hγ hg; have := zFT hn (List.mem_range.2 g3) (List.mem_range.2 hil) (hmine1 g1 g2) (hmine1 h1 h2); rw [this]
       have hro : ∀ {o i}, isMine i = false → i < sh.objs.length → b'.lookup i = some (some o) → γ o = none := by
        intro o i h1 hil h2
        cases hg : γ o with
        | none => rfl
        | some j =>
         obtain ⟨g1, g2, g3⟩ := hγ hg; have hm : o ∈ mine1 b' sh.objs := List.mem_filterMap.2 ⟨j, List.mem_range.2 g3, hmine1 g1 g2⟩; have hr : o ∈ ros1 b' sh.objs := by
          refine List.mem_filterMap.2 ⟨i, List.mem_range.2 hil, ?_⟩; have : ((sh.objs[i]?).map OS.mine).getD true = false := by
           simp only [isMine] at h1; rw [List.getElem?_eq_getElem hil] at h1 ⊢; simpa using h1
          simp [this, h2]
         exact absurd hr (zBV hap o hm)
       have hro2 : ∀ b, RO col (Yof w0 X Y0) b → RO col' (Yof w0 X Y0) b := by
        intro b ⟨h1, h2⟩; refine ⟨?_, h2⟩
        rcases h1 with h1 | ⟨o, k, h1⟩
        · left; simp only [col', h1]
        · cases hg : γ o with
          | none => left; simp only [col', h1, hg, Option.map_none]
          | some j => right; exact ⟨j, k, by simp only [col', h1, hg, Option.map_some]⟩
       refine ⟨b'.names.loc ρ, col', ⟨h.defers, by simp only; rw [h.size]; exact m1.symm, ?_, ?_, ?_, h.low, h.mono, h.fixed, h.same⟩⟩
       · intro i v hi
         rcases m2 i v hi with rfl | hr
         · exact .inl rfl
         · refine RelV.rel (ob := s.ob) (ρ := ρ) (fun _ _ => rfl) hobn hr ?_
           cases ht : s.tm[i]? with
           | none => rw [List.getD_eq_getElem?_getD, ht] at hr; exact hr.elim
           | some u =>
            rw [List.getD_eq_getElem?_getD, ht]; exact h.tmps i u ht
       · intro i y hy; obtain ⟨sp, hsp, hfit⟩ := hobj i y hy; have hil : i < sh.objs.length := (List.getElem?_eq_some_iff.1 hsp).1; have hmi : isMine i = sp.mine := by simp only [isMine, hsp]; rfl
         have mv : ∀ {o x}, b'.lookup i = some (some o) → s.ob o = some x → Moves ob' ρ (b'.names.loc ρ) x y → (y.mine = sp.mine) → ObjRel ob' (b'.names.loc ρ) col' (Yof w0 X Y0) w i y := by
          intro o x hl hx hmv hym
          refine (h.objs o x hx).move hmv (by simp only [Names.loc, Bind.names, hl]) (fun hm b hb => ?_) (fun t xs ht _ b k hb => ?_) (fun _ => hro2) (fun _ b k hb => ?_) (fun _ _ hm b hb => ?_)
          · have := hγ2 (by rw [hmi, ← hym]; exact hm) hl; simp only [col', hb, this, Option.map_some]
          · have hm : y.mine = true := by rw [ht]; rfl
            have := hγ2 (by rw [hmi, ← hym]; exact hm) hl; simp only [col', hb, this, Option.map_some]
          · refine ⟨?_, .inr (h.cold b o _ hb).1⟩
            cases hg : γ o with
            | none => left; simp only [col', hb, hg, Option.map_none]
            | some j => right; exact ⟨j, k, by simp only [col', hb, hg, Option.map_some]⟩
          · have := hro (by rw [hmi, ← hym]; exact hm) hil hl; exact ⟨.inl (by simp only [col', hb, this, Option.map_none]), .inr (h.cold b o _ hb).1⟩
         cases sp with
         | row m t =>
          rcases hfit with ⟨hl, rfl⟩ | ⟨o, m', xs, hl, hx, hle, rfl⟩
          · exact ObjRel.nil (by simp only [Names.loc, hl])
          · exact mv hl hx (.row hle) rfl
         | box m sx =>
          obtain ⟨o, m', x0, x, hl, hx, hle, hrel, rfl⟩ := hfit; have hwf : wfW s.ob ρ x0 := by obtain ⟨_, _, _, g, _⟩ := h.objs o _ hx; exact g
          obtain ⟨g1, g2, _⟩ := RelW.val (ob := s.ob) (ρ := ρ) (ρ' := b'.names.loc ρ) (fun _ _ => rfl) hobn hrel hwf; exact mv hl hx (.box hle g1 g2) rfl
       · intro b i c hb; simp only [col'] at hb
         split at hb
         · rename_i o c' ho; rw [Option.map_eq_some_iff] at hb; obtain ⟨j, hj, hb⟩ := hb; simp only [Prod.mk.injEq] at hb; obtain ⟨rfl, rfl⟩ := hb; obtain ⟨g1, g2, _⟩ := h.cold b o _ ho; obtain ⟨_, q2, _⟩ := hγ hj; exact ⟨g1, g2, hobn j (by simp [Bind.names, q2])⟩
         · simp at hb
     · simp at hf
   · simp at hf
 · simp at hf
end
end Go.Ev
namespace Go.Ev
section
variable {w0 : World} {X Y0 : Nat → Prop} {fix : List (Nat × Value)} {s : St} {ρ : Locs} {col : Col} {a : Act} {w : World}
def Kept (fd : FD) (w0 : World) (X Y0 : Nat → Prop) (fix : List (Nat × Value)) : Prop :=
 ∀ i ∈ fd.kept, ∀ t, fd.sig.params[i]? = some (.ro t) → ∀ v, (i, v) ∈ fix → ∃ y, TRep w0 false (fun b => Y0 b ∧ ¬ X b) t y v.cells.toList
theorem Kept.nil {fd : FD} (h : fd.keeps = []) : Kept fd w0 X Y0 fix := fun i hi => by simp [FD.kept, h] at hi
def FixOk (fd : FD) (w0 : World) (X Y0 : Nat → Prop) (fix : List (Nat × Value)) : Prop := fix.map (·.1) = fd.fixed ∧ Kept fd w0 X Y0 fix
theorem TRep.same {w w0 : World} {own own0 : Bool} {ok ok0 : Nat → Prop} (hw : ∀ b, b < w0.heap.size → ok0 b → w.heap[b]? = w0.heap[b]?) :
  ∀ {t : Ty} {x y : t.den} {cs : List Value}, TRep w own ok t x cs → TRep w0 own0 ok0 t y cs → x = y
 | .int k, x, y, cs, h, g => by
  simp only [TRep] at h g; rw [h] at g; simpa using g
 | .bool, x, y, cs, h, g => by
  simp only [TRep] at h g; rw [h] at g; simpa using g
 | .arr k m, x, y, cs, h, g => by
  simp only [TRep] at h g; obtain ⟨_, rfl⟩ := h; obtain ⟨_, g⟩ := g; exact (List.map_inj_right (fun a b e => by simpa using e)).1 g
 | .barr m, x, y, cs, h, g => by
  simp only [TRep] at h g; obtain ⟨_, rfl⟩ := h; obtain ⟨_, g⟩ := g; exact (List.map_inj_right (fun a b e => by simpa using e)).1 g
 | .pair a b, x, y, cs, h, g => by
  simp only [TRep] at h g; obtain ⟨c1, c2, rfl, h1, h2⟩ := h; obtain ⟨d1, d2, e, g1, g2⟩ := g; obtain ⟨rfl, rfl⟩ := List.append_inj e (by rw [h1.len, g1.len]); exact Prod.ext (TRep.same hw h1 g1) (TRep.same hw h2 g2)
 | .slice u, xs, ys, cs, h, g => by
  simp only [TRep] at h g; obtain ⟨addr, cap, rfl, h1, h2⟩ := h; obtain ⟨addr', cap', e, g1, g2⟩ := g; simp only [List.cons.injEq, Value.slice.injEq, and_true] at e; obtain ⟨rfl, hl, rfl⟩ := e; refine List.ext_getElem? fun i => ?_
  by_cases hi : i < xs.length
  · have hi' : i < ys.length := by omega
    obtain ⟨c1, r1, e1⟩ := h2 i xs[i] (List.getElem?_eq_getElem hi); obtain ⟨c2, r2, e2⟩ := g2 i ys[i] (List.getElem?_eq_getElem hi'); have : c1 = c2 := by
     refine List.ext_getElem? fun j => ?_
     by_cases hj : j < u.cells
     · have k1 := e1 j (c1[j]'(by rw [r1.len]; exact hj)) (List.getElem?_eq_getElem _); have k2 := e2 j (c2[j]'(by rw [r2.len]; exact hj)) (List.getElem?_eq_getElem _)
       rw [zV (w := w0) (w' := w)] at k1
       · rw [k2] at k1; rw [List.getElem?_eq_getElem (by rw [r1.len]; exact hj), List.getElem?_eq_getElem (by rw [r2.len]; exact hj)]; exact k1.symm
       · intro ad had; obtain ⟨_, m2, m3, _⟩ := g1.2.2 ad had (.inl (by omega)); exact hw _ m2 m3
     · rw [List.getElem?_eq_none (by rw [r1.len]; omega), List.getElem?_eq_none (by rw [r2.len]; omega)]
    subst this; rw [List.getElem?_eq_getElem hi, List.getElem?_eq_getElem hi', TRep.same hw r1 r2]
  · rw [List.getElem?_eq_none (by omega), List.getElem?_eq_none (by omega)]
def OldRow (w0 : World) (ok0 : Nat → Prop) (L : Loc) (u : Ty) (xs : List u.den) : Prop := L.len = xs.length ∧ RowW w0 false ok0 u.cells xs.length L.addr L.cap ∧ Elems w0 false (fun _ => ok0) u xs L.addr
theorem zR2 {w0 : World} {ok0 : Nat → Prop} (hw : ∀ b, b < w0.heap.size → ok0 b → w.heap[b]? = w0.heap[b]?) {own : Bool} {okE : Nat → Nat → Prop} {L : Loc} {u : Ty} {xs ys : List u.den} (hl : L.len = xs.length) (he : Elems w own okE u xs L.addr)
  (hy : ys.length = L.len) (g1 : RowW w0 false ok0 u.cells ys.length L.addr L.cap) (g2 : Elems w0 false (fun _ => ok0) u ys L.addr) : OldRow w0 ok0 L u xs := by
 have : xs = ys := by
  refine List.ext_getElem? fun i => ?_
  by_cases hi : i < xs.length
  · have hi' : i < ys.length := by omega
    obtain ⟨c1, r1, e1⟩ := he i xs[i] (List.getElem?_eq_getElem hi); obtain ⟨c2, r2, e2⟩ := g2 i ys[i] (List.getElem?_eq_getElem hi'); have : c1 = c2 := by
     refine List.ext_getElem? fun j => ?_
     by_cases hj : j < u.cells
     · have k1 := e1 j (c1[j]'(by rw [r1.len]; exact hj)) (List.getElem?_eq_getElem _); have k2 := e2 j (c2[j]'(by rw [r2.len]; exact hj)) (List.getElem?_eq_getElem _)
       rw [zV (w := w0) (w' := w)] at k1
       · rw [k2] at k1; rw [List.getElem?_eq_getElem (by rw [r1.len]; exact hj), List.getElem?_eq_getElem (by rw [r2.len]; exact hj)]; exact k1.symm
       · intro ad had; obtain ⟨_, m2, m3, _⟩ := g1.2.2 ad had (.inl (by omega)); exact hw _ m2 m3
     · rw [List.getElem?_eq_none (by rw [r1.len]; omega), List.getElem?_eq_none (by rw [r2.len]; omega)]
    subst this; rw [List.getElem?_eq_getElem hi, List.getElem?_eq_getElem hi', TRep.same hw r1 r2]
  · rw [List.getElem?_eq_none (by omega), List.getElem?_eq_none (by omega)]
 subst this; exact ⟨hl, g1, g2⟩
theorem zFE {ob : Objs} {w0 : World} {ok0 : Nat → Prop} (hw : ∀ b, b < w0.heap.size → ok0 b → w.heap[b]? = w0.heap[b]?)
  (hob : ∀ o m u (xs : List u.den), ob o = some (.row m u xs) → (ρ o).len = xs.length ∧ ∃ own okE, Elems w own okE u xs (ρ o).addr) : ∀ {t : Ty} {cs : List C} {x : t.den} {us : List (Nat × Mode)} {r : List C}, packC ob t cs = some (x, us, r) →
  ∀ {y : t.den} {c0 r0 : List Value}, cs.map (cval ρ) = c0 ++ r0 → TRep w0 false ok0 t y c0 → r.map (cval ρ) = r0 ∧ ∀ o m, (o, m) ∈ us → ∀ m' u (xs : List u.den), ob o = some (.row m' u xs) → OldRow w0 ok0 (ρ o) u xs
 | .int k, cs, x, us, r, h, y, c0, r0, hc, hr => by
  rcases cs with _ | ⟨c, cs⟩
  · simp [packC] at h
  · cases c <;> simp [packC] at h
    obtain ⟨rfl, rfl, rfl, rfl⟩ := h; simp only [TRep] at hr; subst hr; simp only [List.map_cons, List.cons_append, List.nil_append, List.cons.injEq] at hc; exact ⟨hc.2, fun o m hm => by simp at hm⟩
 | .bool, cs, x, us, r, h, y, c0, r0, hc, hr => by
  rcases cs with _ | ⟨c, cs⟩
  · simp [packC] at h
  · cases c <;> simp [packC] at h
    obtain ⟨rfl, rfl, rfl⟩ := h; simp only [TRep] at hr; subst hr; simp only [List.map_cons, List.cons_append, List.nil_append, List.cons.injEq] at hc; exact ⟨hc.2, fun o m hm => by simp at hm⟩
 | .slice u, cs, x, us, r, h, y, c0, r0, hc, hr => by
  simp only [TRep] at hr; obtain ⟨addr, cap, rfl, g1, g2⟩ := hr
  rcases cs with _ | ⟨c, cs⟩
  · simp [packC] at h
  · simp only [List.map_cons, List.cons_append, List.nil_append, List.cons.injEq] at hc
    cases c with
    | nil =>
     simp only [packC, Option.some.injEq, Prod.mk.injEq] at h; obtain ⟨rfl, rfl, rfl⟩ := h; exact ⟨hc.2, fun o m hm => by simp at hm⟩
    | sl o =>
     simp only [packC] at h
     split at h
     · rename_i m xs h1; simp only [Option.some.injEq, Prod.mk.injEq] at h; obtain ⟨rfl, rfl, rfl⟩ := h; refine ⟨hc.2, fun o2 m2 hm m' u' xs' hx => ?_⟩; simp only [List.mem_singleton, Prod.mk.injEq] at hm; obtain ⟨rfl, rfl⟩ := hm; have := zK h1; rw [hx] at this; simp only [Option.some.injEq, Ev.Obj.row.injEq] at this; obtain ⟨rfl, rfl, e⟩ := this; obtain ⟨k1, own, okE, k2⟩ := hob _ _ _ _ hx; simp only [cval, Value.slice.injEq] at hc; obtain ⟨⟨e1, e2, e3⟩, _⟩ := hc; subst e1; subst e3; exact zR2 hw k1 k2 e2.symm g1 g2
     · simp at h
    | int k n => simp [packC] at h
    | bool b => simp [packC] at h
    | ptr o i es j => simp [packC] at h
 | .arr k m, cs, x, us, r, h, _, _, _, _, _ => by simp [packC] at h
 | .barr m, cs, x, us, r, h, _, _, _, _, _ => by simp [packC] at h
 | .pair p q, cs, x, us, r, h, y, c0, r0, hc, hr => by
  simp only [TRep] at hr; obtain ⟨c1, c2, rfl, g1, g2⟩ := hr; simp only [packC] at h
  split at h
  · rename_i x1 us1 r1 h1
    split at h
    · rename_i x2 us2 r2 h2; simp only [Option.some.injEq, Prod.mk.injEq] at h; obtain ⟨rfl, rfl, rfl⟩ := h; obtain ⟨k1, k2⟩ := zFE hw hob h1 (by rw [hc, List.append_assoc]) g1; obtain ⟨k3, k4⟩ := zFE hw hob h2 k1 g2; refine ⟨k3, fun o m hm => ?_⟩
      rcases List.mem_append.1 hm with hm | hm
      · exact k2 o m hm
      · exact k4 o m hm
    · simp at h
  · simp at h
theorem zO8 {ob : Objs} {w0 : World} {ok0 : Nat → Prop} (hw : ∀ b, b < w0.heap.size → ok0 b → w.heap[b]? = w0.heap[b]?)
  (hob : ∀ o m u (xs : List u.den), ob o = some (.row m u xs) → (ρ o).len = xs.length ∧ ∃ own okE, Elems w own okE u xs (ρ o).addr) {t : Ty} {v : W} {x : t.den} {us : List (Nat × Mode)} (h : packW ob t v = some (x, us))
  {y : t.den} (hr : TRep w0 false ok0 t y (wcells ρ v)) : ∀ o m, (o, m) ∈ us → ∀ m' u (xs : List u.den), ob o = some (.row m' u xs) → OldRow w0 ok0 (ρ o) u xs := by
 unfold packW at h
 split at h
 · split at h
   · simp only [Option.some.injEq, Prod.mk.injEq] at h; obtain ⟨_, rfl⟩ := h; exact fun o m hm => by simp at hm
   · simp at h
 · simp only [Option.some.injEq, Prod.mk.injEq] at h; obtain ⟨_, rfl⟩ := h; exact fun o m hm => by simp at hm
 · split at h
   · simp only [Option.some.injEq, Prod.mk.injEq] at h; obtain ⟨_, rfl⟩ := h; exact fun o m hm => by simp at hm
   · simp at h
 · split at h
   · simp only [Option.some.injEq, Prod.mk.injEq] at h; obtain ⟨_, rfl⟩ := h; exact fun o m hm => by simp at hm
   · simp at h
 · simp only [Option.some.injEq, Prod.mk.injEq] at h; obtain ⟨_, rfl⟩ := h; exact fun o m hm => by simp at hm
 · rename_i u o
   split at h
   · rename_i m xs h1; simp only [Option.some.injEq, Prod.mk.injEq] at h; obtain ⟨rfl, rfl⟩ := h; have : packC ob (.slice u) [.sl o] = some (xs, [(o, m)], []) := by simp [packC, h1]
     exact (zFE hw hob this (c0 := [cval ρ (.sl o)]) (r0 := []) (by simp) hr).2
   · simp at h
 · rename_i p q cs
   split at h
   · rename_i x1 us1 h1; simp only [Option.some.injEq, Prod.mk.injEq] at h; obtain ⟨rfl, rfl⟩ := h; exact (zFE hw hob h1 (c0 := cs.map (cval ρ)) (r0 := []) (by simp) hr).2
   · simp at h
 · simp at h
theorem Inv.changes : ∀ (l : List (Nat × Obj)) {s : St}, Inv w0 X Y0 fix s ρ col a w → (∀ q ∈ l, s.ob q.1 ≠ none ∧ ∀ ob, ObjRel ob ρ col (Yof w0 X Y0) w q.1 q.2) → Inv w0 X Y0 fix ⟨s.tm, s.ob.upds l⟩ ρ col a w
 | [], _, h, _ => h
 | (o, x) :: l, s, h, hl => by
  have h1 := h.change (hl (o, x) (by simp)).1 ((hl (o, x) (by simp)).2 _); refine Inv.changes l h1 (fun q hq => ⟨?_, (hl q (by simp [hq])).2⟩); simp only [Objs.upd]
  split
  · simp
  · exact (hl q (by simp [hq])).1
theorem Inv.revive {fd : FD} (h : Inv w0 X Y0 fix s ρ col a w) (hf : FixOk fd w0 X Y0 fix) {tm' : List V} {ob' : Objs} {col' : Col} {a' : Act} {w' : World} (h' : Inv w0 X Y0 fix ⟨tm', ob'⟩ ρ col' a' w')
  (hne : ∀ o, s.ob o ≠ none → ob' o ≠ none) : Inv w0 X Y0 fix ⟨tm', ob'.upds (fd.revive s)⟩ ρ col' a' w' := by
 refine Inv.changes _ h' (fun q hq => ?_); obtain ⟨o, x⟩ := q; simp only [FD.revive, List.mem_flatMap] at hq; obtain ⟨i, hi, hq⟩ := hq
 split at hq
 · rename_i t v hp hv
   split at hq
   · rename_i x0 us hpk; simp only [List.mem_filterMap] at hq; obtain ⟨⟨o2, m⟩, hm, hq⟩ := hq
     split at hq
     · rename_i u xs hob; simp only [Option.some.injEq, Prod.mk.injEq] at hq; obtain ⟨rfl, rfl⟩ := hq; simp only at hob; refine ⟨hne _ (by rw [hob]; simp), fun ob => ?_⟩; have hmem : i ∈ fix.map (·.1) := by
        rw [hf.1]; exact List.mem_append_right _ hi
       obtain ⟨⟨i', v0⟩, hfx, e⟩ := List.mem_map.1 hmem; simp only at e; subst e; obtain ⟨f1, f2⟩ := h.fixed _ hfx; obtain ⟨k1, k2⟩ := h.getD hv (by simp); simp only at f2; rw [Array.getD_eq_getD_getElem?, k1] at f2; simp only [Option.getD_some, vval] at f2; obtain ⟨y, hy⟩ := hf.2 _ hi t hp v0 hfx; rw [← f2, zI] at hy; have hlow : ∀ b, b < w0.heap.size → (Y0 b ∧ ¬ X b) → w.heap[b]? = w0.heap[b]? := fun b hb ho => h.low b hb ho.2; obtain ⟨g1, g2, g3⟩ := zO8 hlow (fun o m u xs ho => by
        obtain ⟨r1, r2, r3⟩ := h.objs o _ ho; exact ⟨r1, _, _, r3⟩) hpk hy o2 m hm _ u xs hob
       have hok : ∀ b, b < w0.heap.size → (Y0 b ∧ ¬ X b) → RO col' (Yof w0 X Y0) b ∧ w'.heap[b]? = w0.heap[b]? := by
        intro b hb ho; refine ⟨⟨.inl ?_, .inl ho.1⟩, h'.low b hb ho.2⟩
        cases hcb : col' b with
        | none => rfl
        | some z =>
         rcases (h'.cold b z.1 z.2 hcb).1 with g | g
         · omega
         · exact absurd g ho.2
       refine ⟨g1, g2.frame id h'.mono hok, g3.frame id h'.mono (fun _ _ b hb ho => hok b hb ho) (fun hl ad had => ?_)⟩; obtain ⟨_, m2, m3, _⟩ := g2.2.2 ad had (.inl hl); exact (hok _ m2 m3).2
     · simp at hq
   · simp at hq
 · simp at hq
end
end Go.Ev
