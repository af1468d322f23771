/- The program answers as the reference does, for all arguments. No conditions. -/
import Derived.Test.YtffepojldjodcaaRows
import Derived.Test.YtffepojldjodcaaHead
import Derived.Test.YtffepojldjodcaaMh9
import Derived.Test.YtffepojldjodcaaFacts
import Derived.Test.YtffepojldjodcaaV4
import Derived.WalkKit
import Derived.ProofKit
import Derived.OpenShut
import Derived.ChangeOld
import Derived.Below
import Derived.Carry
import Derived.SizedLaws
import Derived.KernelRfl
namespace Go.Proofs.Ytffepojldjodcaa.fnExactSortBraids
open Go.Proofs.Ytffepojldjodcaa.Head Go.ChangeShapes Go.WideShapes Go.ChangeAt Go.RowKit
set_option linter.unusedVariables false
set_option maxRecDepth 100000 in
theorem lifted (os : Os) (started : os.Started) (H : Type) (enc : TypeId × Value → H) :
    ReturnsInHanded {} Try.checked os 11 .any (Rows.fnExactSortBraidsSpec.pre6 enc Try.prog Try.f11 Rows.fnExactSortBraidsRow.domain false) (Rows.fnExactSortBraidsSpec.post enc Try.prog Try.f11 false true false false) := by
  refine returnsInHanded_of_change_sized (C := Try.checked) own started (by kernel_rfl) Try.func11
    (ChangeSpec.witness6 (enc := enc) (C := Try.checked) false ⟨#[], #[.slice none 0 0], []⟩ 8 (by kernel_rfl) (by kernel_rfl) (by kernel_rfl) (by kernel_rfl)) ?_
  intro W base args ds gs before hval0 hW hcnd hsz0 _
  have hval : ∀ (j : Nat) t v, Try.f11.params[j]? = some t → args[j]? = some v → Value.okWide Try.prog W .any base t v := hval0
  have hW' := hW
  obtain ⟨p, q, hA0, hV, rfl, hfz, hnd⟩ := hW
  have hA : DataW.TrodAll enc Try.prog W 0 (fun _ => true) true Try.f11.params.toList args.toList ds p := hA0
  rw [Try.params11] at hA hval
  obtain ⟨v0, vs0, d0, ds0, p0, q0, hargs, rfl, rfl, h0, r0⟩ := trodAll_cons hA
  obtain ⟨rfl, rfl, rfl⟩ := trodAll_nil r0
  obtain rfl : args = #[v0] := by cases args; simp_all
  obtain ⟨rfl, rfl⟩ := trodVars_none hV
  have k0 := h0
  have lt0 : ∀ x ∈ p0, x.block < W.heap.size := by obtain ⟨m, hm⟩ := k0; exact DataW.trod_lt m _ _ _ hm
  obtain ⟨x0, y0, z0⟩ := Go.Ev.arg_fit (t := .slice (.pair (.int .i64) (.slice (.int .i64)))) (by kernel_rfl) (hval 0 45 v0 rfl rfl) h0
  clear hA0 hval0 hsz0
  refine (Go.Ev.law_ev Go.Ev.Ytffepojldjodcaa.envOk (f := Go.Ev.Ytffepojldjodcaa.iw_FnExactSortBraids) (fd := Go.Ev.Ytffepojldjodcaa.fd11) rfl rfl (.cons y0 .nil) (Go.Ev.Ytffepojldjodcaa.law_FnExactSortBraids x0 z0)).mono fun e W' ⟨he, bel⟩ => ?_
  subst he
  exact ⟨_, rfl, _, _, _, [], _, [], hW', trodAll_mk1 (shut_bool Try.underlying4 _), (trodAll_cons_mk (Below.trod laidOut (by kernel_rfl) (of_decide_eq_true (by kernel_rfl)) k0 bel lt0) trodAll_mk0), rfl, bel.frame _, fun h => by cases h⟩
theorem closed : joinedFacts Try.prog 11 Try.f11 Rows.fnExactSortBraidsSpec Rows.fnExactSortBraidsRow = true := by
  unfold joinedFacts
  rw [Head.heard, Head.may, Head.make, Head.lifts]
  kernel_rfl
theorem over : Rows.fnExactSortBraidsRow.holds Try.pinned (OpenSpec.ofChange Rows.fnExactSortBraidsSpec) :=
  OpenClaim.holds_of_wide 11 Try.f11 rfl rfl rfl rfl rfl rfl rfl ⟨rfl, rfl, rfl, rfl, rfl⟩ rfl rfl rfl rfl rfl (by kernel_rfl) Try.func11 closed
    (of_decide_eq_true (by kernel_rfl)) (by unfold Func.isWrapper; first | (rw [if_pos (by decide +kernel)]; kernel_rfl) | (rw [if_neg (by decide +kernel)]; exact ⟨rfl, rfl⟩))
    (fun os started H enc _ => lifted os started H enc)
theorem proved : Rows.FnExactSortBraidsSaid := over
#print axioms proved
end Go.Proofs.Ytffepojldjodcaa.fnExactSortBraids
namespace Go.Proofs.Ytffepojldjodcaa
/-- The row, under a short name, for the claim. -/
theorem fnExactSortBraids_holds : Rows.FnExactSortBraidsSaid := fnExactSortBraids.proved
end Go.Proofs.Ytffepojldjodcaa
