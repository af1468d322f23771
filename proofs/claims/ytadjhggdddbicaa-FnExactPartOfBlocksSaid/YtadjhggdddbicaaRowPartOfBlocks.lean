/- The program's PartOfBlocks answers as the reference's does, for all arguments. No conditions. -/
import Derived.Test.YtadjhggdddbicaaRows
import Derived.Test.YtadjhggdddbicaaHead
import Derived.Test.YtadjhggdddbicaaMq4
import Derived.Test.YtadjhggdddbicaaFacts
import Derived.Test.YtadjhggdddbicaaV4
import Derived.WalkKit
import Derived.ProofKit
import Derived.OpenShut
import Derived.ChangeOld
import Derived.Below
import Derived.Carry
import Derived.SizedLaws
import Derived.KernelRfl
namespace Go.Proofs.Ytadjhggdddbicaa.fnExactPartOfBlocks
open Go.Proofs.Ytadjhggdddbicaa.Head Go.ChangeShapes Go.WideShapes Go.ChangeAt Go.RowKit
set_option linter.unusedVariables false
set_option maxRecDepth 100000 in
theorem lifted (os : Os) (started : os.Started) (H : Type) (enc : TypeId × Value → H) :
    ReturnsInHanded {} Try.checked os 8 .any (Rows.fnExactPartOfBlocksSpec.pre6 enc Try.prog Try.f8 Rows.fnExactPartOfBlocksRow.domain false) (Rows.fnExactPartOfBlocksSpec.post enc Try.prog Try.f8 false true false false) := by
  refine returnsInHanded_of_change_sized (C := Try.checked) own started (by kernel_rfl) Try.func8
    (ChangeSpec.witness6 (enc := enc) (C := Try.checked) false ⟨#[], #[.slice none 0 0, .int .i64 0], []⟩ 8 (by kernel_rfl) (by kernel_rfl) (by kernel_rfl) (by kernel_rfl)) ?_
  intro W base args ds gs before hval0 hW hcnd hsz0 _
  have hval : ∀ (j : Nat) t v, Try.f8.params[j]? = some t → args[j]? = some v → Value.okWide Try.prog W .any base t v := hval0
  have hW' := hW
  obtain ⟨p, q, hA0, hV, rfl, hfz, hnd⟩ := hW
  have hA : DataW.TrodAll enc Try.prog W 0 (fun _ => true) true Try.f8.params.toList args.toList ds p := hA0
  rw [Try.params8] at hA hval
  obtain ⟨v0, vs0, d0, ds0, p0, q0, hargs, rfl, rfl, h0, r0⟩ := trodAll_cons hA
  obtain ⟨v1, vs1, d1, ds1, p1, q1, rfl, rfl, rfl, h1, r1⟩ := trodAll_cons r0
  obtain ⟨rfl, rfl, rfl⟩ := trodAll_nil r1
  obtain rfl : args = #[v0, v1] := by cases args; simp_all
  obtain ⟨rfl, rfl⟩ := trodVars_none hV
  have k0 := h0
  have lt0 : ∀ x ∈ p0, x.block < W.heap.size := by obtain ⟨m, hm⟩ := k0; exact DataW.trod_lt m _ _ _ hm
  obtain ⟨x0, y0, z0⟩ := Go.Ev.arg_fit (t := .slice (.slice (.int .i64))) (by kernel_rfl) (hval 0 42 v0 rfl rfl) h0
  have k1 := h1
  have lt1 : ∀ x ∈ p1, x.block < W.heap.size := by obtain ⟨m, hm⟩ := k1; exact DataW.trod_lt m _ _ _ hm
  obtain ⟨x1, y1, z1⟩ := Go.Ev.arg_fit (t := .int .i64) (by kernel_rfl) (hval 1 2 v1 rfl rfl) h1
  clear hA0 hval0 hsz0
  refine (Go.Ev.law_ev Go.Ev.Ytadjhggdddbicaa.envOk (f := Go.Ev.Ytadjhggdddbicaa.iw_FnExactPartOfBlocks) (fd := Go.Ev.Ytadjhggdddbicaa.fd8) rfl rfl (.cons y0 (.cons y1 .nil)) (Go.Ev.Ytadjhggdddbicaa.law_FnExactPartOfBlocks x0 z0 x1 z1)).mono fun e W' ⟨he, bel⟩ => ?_
  subst he
  exact ⟨_, rfl, _, _, _, [], _, [], hW', trodAll_mk1 (shut_bool Try.underlying4 _), (trodAll_cons_mk (Below.trod laidOut (by kernel_rfl) (of_decide_eq_true (by kernel_rfl)) k0 bel lt0) (trodAll_cons_mk (Below.trod laidOut (by kernel_rfl) (of_decide_eq_true (by kernel_rfl)) k1 bel lt1) trodAll_mk0)), rfl, bel.frame _, fun h => by cases h⟩
theorem closed : joinedFacts Try.prog 8 Try.f8 Rows.fnExactPartOfBlocksSpec Rows.fnExactPartOfBlocksRow = true := by
  unfold joinedFacts
  rw [Head.heard, Head.may, Head.make, Head.lifts]
  kernel_rfl
theorem over : Rows.fnExactPartOfBlocksRow.holds Try.pinned (OpenSpec.ofChange Rows.fnExactPartOfBlocksSpec) :=
  OpenClaim.holds_of_wide 8 Try.f8 rfl rfl rfl rfl rfl rfl rfl ⟨rfl, rfl, rfl, rfl, rfl⟩ rfl rfl rfl rfl rfl (by kernel_rfl) Try.func8 closed
    (of_decide_eq_true (by kernel_rfl)) (by unfold Func.isWrapper; first | (rw [if_pos (by decide +kernel)]; kernel_rfl) | (rw [if_neg (by decide +kernel)]; exact ⟨rfl, rfl⟩))
    (fun os started H enc _ => lifted os started H enc)
theorem proved : Rows.FnExactPartOfBlocksSaid := over
#print axioms proved
end Go.Proofs.Ytadjhggdddbicaa.fnExactPartOfBlocks
namespace Go.Proofs.Ytadjhggdddbicaa
/-- The row, under a short name, for the claim. -/
theorem fnExactPartOfBlocks_holds : Rows.FnExactPartOfBlocksSaid := fnExactPartOfBlocks.proved
end Go.Proofs.Ytadjhggdddbicaa
