/- Ranks, meets, joins, turns and blocks of partitions answer as told. No conditions. -/
import Derived.Test.YtknhngnhjdpedaaGreatRows
import Derived.Test.YtknhngnhjdpedaaGreatHead
import Derived.Test.YtknhngnhjdpedaaGreatMr5
import Derived.Test.YtknhngnhjdpedaaGreatFacts
import Derived.Test.YtknhngnhjdpedaaGreatV4
import Derived.WalkKit
import Derived.ProofKit
import Derived.OpenShut
import Derived.ChangeOld
import Derived.Below
import Derived.Carry
import Derived.SizedLaws
import Derived.KernelRfl
namespace Go.Proofs.YtknhngnhjdpedaaGreat.fnParts
open Go.Proofs.YtknhngnhjdpedaaGreat.Head Go.ChangeShapes Go.WideShapes Go.ChangeAt Go.RowKit
set_option linter.unusedVariables false
set_option maxRecDepth 100000 in
theorem lifted (os : Os) (started : os.Started) (H : Type) (enc : TypeId × Value → H) :
    ReturnsInHanded {} Tryz.checked os 3 .any (Rows.fnPartsSpec.pre6 enc Tryz.prog Tryz.f3 Rows.fnPartsRow.domain false) (Rows.fnPartsSpec.post enc Tryz.prog Tryz.f3 false true false false) := by
  refine returnsInHanded_of_change_sized (C := Tryz.checked) own started (by kernel_rfl) Tryz.func3
    (ChangeSpec.witness6 (enc := enc) (C := Tryz.checked) false ⟨#[], #[.slice none 0 0], []⟩ 8 (by kernel_rfl) (by kernel_rfl) (by kernel_rfl) (by kernel_rfl)) ?_
  intro W base args ds gs before hval0 hW hcnd hsz0 _
  have hval : ∀ (j : Nat) t v, Tryz.f3.params[j]? = some t → args[j]? = some v → Value.okWide Tryz.prog W .any base t v := hval0
  have hW' := hW
  obtain ⟨p, q, hA0, hV, rfl, hfz, hnd⟩ := hW
  have hA : DataW.TrodAll enc Tryz.prog W 0 (fun _ => true) true Tryz.f3.params.toList args.toList ds p := hA0
  rw [Tryz.params3] at hA hval
  obtain ⟨v0, vs0, d0, ds0, p0, q0, hargs, rfl, rfl, h0, r0⟩ := trodAll_cons hA
  obtain ⟨rfl, rfl, rfl⟩ := trodAll_nil r0
  obtain rfl : args = #[v0] := by cases args; simp_all
  obtain ⟨rfl, rfl⟩ := trodVars_none hV
  have k0 := h0
  have lt0 : ∀ x ∈ p0, x.block < W.heap.size := by obtain ⟨m, hm⟩ := k0; exact DataW.trod_lt m _ _ _ hm
  obtain ⟨x0, y0, z0⟩ := Go.Ev.arg_fit (t := .slice (.int .u8)) (by kernel_rfl) (hval 0 22 v0 rfl rfl) h0
  clear hA0 hval0 hsz0
  refine (Go.Ev.law_ev Go.Ev.YtknhngnhjdpedaaGreat.envOk (f := Go.Ev.YtknhngnhjdpedaaGreat.iw_FnParts) (fd := Go.Ev.YtknhngnhjdpedaaGreat.fd3) rfl rfl (.cons y0 .nil) (Go.Ev.YtknhngnhjdpedaaGreat.law_FnParts x0 z0)).mono fun e W' ⟨he, bel⟩ => ?_
  subst he
  exact ⟨_, rfl, _, _, _, [], _, [], hW', trodAll_mk1 (shut_bool Tryz.underlying4 _), (trodAll_cons_mk (Below.trod laidOut (by kernel_rfl) (of_decide_eq_true (by kernel_rfl)) k0 bel lt0) trodAll_mk0), rfl, bel.frame _, fun h => by cases h⟩
theorem closed : joinedFacts Tryz.prog 3 Tryz.f3 Rows.fnPartsSpec Rows.fnPartsRow = true := by
  unfold joinedFacts
  rw [Head.heard, Head.may, Head.make, Head.lifts]
  kernel_rfl
theorem over : Rows.fnPartsRow.holds Tryz.pinned (OpenSpec.ofChange Rows.fnPartsSpec) :=
  OpenClaim.holds_of_wide 3 Tryz.f3 rfl rfl rfl rfl rfl rfl rfl ⟨rfl, rfl, rfl, rfl, rfl⟩ rfl rfl rfl rfl rfl (by kernel_rfl) Tryz.func3 closed
    (of_decide_eq_true (by kernel_rfl)) (by unfold Func.isWrapper; first | (rw [if_pos (by decide +kernel)]; kernel_rfl) | (rw [if_neg (by decide +kernel)]; exact ⟨rfl, rfl⟩))
    (fun os started H enc _ => lifted os started H enc)
theorem proved : Rows.FnPartsSaid := over
#print axioms proved
end Go.Proofs.YtknhngnhjdpedaaGreat.fnParts
namespace Go.Proofs.YtknhngnhjdpedaaGreat
/-- The row, under a short name, for the claim. -/
theorem fnParts_holds : Rows.FnPartsSaid := fnParts.proved
end Go.Proofs.YtknhngnhjdpedaaGreat
