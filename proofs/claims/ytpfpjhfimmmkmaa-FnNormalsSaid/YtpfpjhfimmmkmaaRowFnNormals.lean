/- The property FnNormals of the program holds, for all arguments. No conditions. -/
import Derived.Test.YtpfpjhfimmmkmaaRows
import Derived.Test.YtpfpjhfimmmkmaaHead
import Derived.Test.YtpfpjhfimmmkmaaMw8
import Derived.Test.YtpfpjhfimmmkmaaFacts
import Derived.Test.YtpfpjhfimmmkmaaV4
import Derived.WalkKit
import Derived.ProofKit
import Derived.OpenShut
import Derived.ChangeOld
import Derived.Below
import Derived.Carry
import Derived.SizedLaws
import Derived.KernelRfl
namespace Go.Proofs.Ytpfpjhfimmmkmaa.fnNormals
open Go.Proofs.Ytpfpjhfimmmkmaa.Head Go.ChangeShapes Go.WideShapes Go.ChangeAt Go.RowKit
set_option linter.unusedVariables false
set_option maxRecDepth 100000 in
theorem lifted (os : Os) (started : os.Started) (H : Type) (enc : TypeId × Value → H) :
    ReturnsInHanded {} Try.checked os 3 .any (Rows.fnNormalsSpec.pre6 enc Try.prog Try.f3 Rows.fnNormalsRow.domain false) (Rows.fnNormalsSpec.post enc Try.prog Try.f3 false true false false) := by
  refine returnsInHanded_of_change_sized (C := Try.checked) own started (by kernel_rfl) Try.func3
    (ChangeSpec.witness6 (enc := enc) (C := Try.checked) false ⟨#[], #[.slice none 0 0], []⟩ 8 (by kernel_rfl) (by kernel_rfl) (by kernel_rfl) (by kernel_rfl)) ?_
  intro W base args ds gs before hval0 hW hcnd hsz0 _
  have hval : ∀ (j : Nat) t v, Try.f3.params[j]? = some t → args[j]? = some v → Value.okWide Try.prog W .any base t v := hval0
  have hW' := hW
  obtain ⟨p, q, hA0, hV, rfl, hfz, hnd⟩ := hW
  have hA : DataW.TrodAll enc Try.prog W 0 (fun _ => true) true Try.f3.params.toList args.toList ds p := hA0
  rw [Try.params3] at hA hval
  obtain ⟨v0, vs0, d0, ds0, p0, q0, hargs, rfl, rfl, h0, r0⟩ := trodAll_cons hA
  obtain ⟨rfl, rfl, rfl⟩ := trodAll_nil r0
  obtain rfl : args = #[v0] := by cases args; simp_all
  obtain ⟨rfl, rfl⟩ := trodVars_none hV
  have k0 := h0
  have lt0 : ∀ x ∈ p0, x.block < W.heap.size := by obtain ⟨m, hm⟩ := k0; exact DataW.trod_lt m _ _ _ hm
  obtain ⟨x0, y0, z0⟩ := Go.Ev.arg_fit (t := .slice (.int .u8)) (by kernel_rfl) (hval 0 22 v0 rfl rfl) h0
  clear hA0 hval0 hsz0
  refine (Go.Ev.law_ev Go.Ev.Ytpfpjhfimmmkmaa.envOk (f := Go.Ev.Ytpfpjhfimmmkmaa.iw_FnNormals) (fd := Go.Ev.Ytpfpjhfimmmkmaa.fd3) rfl rfl (.cons y0 .nil) (Go.Ev.Ytpfpjhfimmmkmaa.law_FnNormals x0 z0)).mono fun e W' ⟨he, bel⟩ => ?_
  subst he
  exact ⟨_, rfl, _, _, _, [], _, [], hW', trodAll_mk1 (shut_bool Try.underlying4 _), (trodAll_cons_mk (Below.trod laidOut (by kernel_rfl) (of_decide_eq_true (by kernel_rfl)) k0 bel lt0) trodAll_mk0), rfl, bel.frame _, fun h => by cases h⟩
theorem closed : joinedFacts Try.prog 3 Try.f3 Rows.fnNormalsSpec Rows.fnNormalsRow = true := by
  unfold joinedFacts
  rw [Head.heard, Head.may, Head.make, Head.lifts]
  kernel_rfl
theorem over : Rows.fnNormalsRow.holds Try.pinned (OpenSpec.ofChange Rows.fnNormalsSpec) :=
  OpenClaim.holds_of_wide 3 Try.f3 rfl rfl rfl rfl rfl rfl rfl ⟨rfl, rfl, rfl, rfl, rfl⟩ rfl rfl rfl rfl rfl (by kernel_rfl) Try.func3 closed
    (of_decide_eq_true (by kernel_rfl)) (by unfold Func.isWrapper; first | (rw [if_pos (by decide +kernel)]; kernel_rfl) | (rw [if_neg (by decide +kernel)]; exact ⟨rfl, rfl⟩))
    (fun os started H enc _ => lifted os started H enc)
theorem proved : Rows.FnNormalsSaid := over
#print axioms proved
end Go.Proofs.Ytpfpjhfimmmkmaa.fnNormals
namespace Go.Proofs.Ytpfpjhfimmmkmaa
/-- The row, under a short name, for the claim. -/
theorem fnNormals_holds : Rows.FnNormalsSaid := fnNormals.proved
end Go.Proofs.Ytpfpjhfimmmkmaa
