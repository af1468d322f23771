/- Handle reduction leads to nothing exactly for words of the braid without crossings, and conjugate braids have closures with the same polynomial of Alexander. No conditions. -/
import Derived.Test.YtlkmkabnbegfdaaGreatRows
import Derived.Test.YtlkmkabnbegfdaaGreatHead
import Derived.Test.YtlkmkabnbegfdaaGreatMz5
import Derived.Test.YtlkmkabnbegfdaaGreatFacts
import Derived.Test.YtlkmkabnbegfdaaGreatV4
import Derived.WalkKit
import Derived.ProofKit
import Derived.OpenShut
import Derived.ChangeOld
import Derived.Below
import Derived.Carry
import Derived.SizedLaws
import Derived.KernelRfl
namespace Go.Proofs.YtlkmkabnbegfdaaGreat.fnReductions
open Go.Proofs.YtlkmkabnbegfdaaGreat.Head Go.ChangeShapes Go.WideShapes Go.ChangeAt Go.RowKit
set_option linter.unusedVariables false
set_option maxRecDepth 100000 in
theorem lifted (os : Os) (started : os.Started) (H : Type) (enc : TypeId × Value → H) :
    ReturnsInHanded {} Tryz.checked os 3 .any (Rows.fnReductionsSpec.pre6 enc Tryz.prog Tryz.f3 Rows.fnReductionsRow.domain false) (Rows.fnReductionsSpec.post enc Tryz.prog Tryz.f3 false true false false) := by
  refine returnsInHanded_of_change_sized (C := Tryz.checked) own started (by kernel_rfl) Tryz.func3
    (ChangeSpec.witness6 (enc := enc) (C := Tryz.checked) false ⟨#[], #[.slice none 0 0], []⟩ 8 (by kernel_rfl) (by kernel_rfl) (by kernel_rfl) (by kernel_rfl)) ?_
  intro W base args ds gs before hval0 hW hcnd hsz0 _
  have hval : ∀ (j : Nat) t v, Tryz.f3.params[j]? = some t → args[j]? = some v → Value.okWide Tryz.prog W .any base t v := hval0
  have hW' := hW
  obtain ⟨p, q, hA0, hV, rfl, hfz, hnd⟩ := hW
  have hA : DataW.TrodAll enc Tryz.prog W 0 (fun _ => true) true Tryz.f3.params.toList args.toList ds p := hA0
  rw [Tryz.params3] at hA hval
  obtain ⟨v0, vs0, d0, ds0, p0, q0, hargs, rfl, rfl, h0, r0⟩ := trodAll_cons hA
  obtain ⟨rfl, rfl, rfl⟩ := trodAll_nil r0
  obtain rfl : args = #[v0] := by cases args; simp_all
  obtain ⟨rfl, rfl⟩ := trodVars_none hV
  have k0 := h0
  have lt0 : ∀ x ∈ p0, x.block < W.heap.size := by obtain ⟨m, hm⟩ := k0; exact DataW.trod_lt m _ _ _ hm
  obtain ⟨x0, y0, z0⟩ := Go.Ev.arg_fit (t := .slice (.int .u8)) (by kernel_rfl) (hval 0 22 v0 rfl rfl) h0
  clear hA0 hval0 hsz0
  refine (Go.Ev.law_ev Go.Ev.YtlkmkabnbegfdaaGreat.envOk (f := Go.Ev.YtlkmkabnbegfdaaGreat.iw_FnReductions) (fd := Go.Ev.YtlkmkabnbegfdaaGreat.fd3) rfl rfl (.cons y0 .nil) (Go.Ev.YtlkmkabnbegfdaaGreat.law_FnReductions x0 z0)).mono fun e W' ⟨he, bel⟩ => ?_
  subst he
  exact ⟨_, rfl, _, _, _, [], _, [], hW', trodAll_mk1 (shut_bool Tryz.underlying4 _), (trodAll_cons_mk (Below.trod laidOut (by kernel_rfl) (of_decide_eq_true (by kernel_rfl)) k0 bel lt0) trodAll_mk0), rfl, bel.frame _, fun h => by cases h⟩
theorem closed : joinedFacts Tryz.prog 3 Tryz.f3 Rows.fnReductionsSpec Rows.fnReductionsRow = true := by
  unfold joinedFacts
  rw [Head.heard, Head.may, Head.make, Head.lifts]
  kernel_rfl
theorem over : Rows.fnReductionsRow.holds Tryz.pinned (OpenSpec.ofChange Rows.fnReductionsSpec) :=
  OpenClaim.holds_of_wide 3 Tryz.f3 rfl rfl rfl rfl rfl rfl rfl ⟨rfl, rfl, rfl, rfl, rfl⟩ rfl rfl rfl rfl rfl (by kernel_rfl) Tryz.func3 closed
    (of_decide_eq_true (by kernel_rfl)) (by unfold Func.isWrapper; first | (rw [if_pos (by decide +kernel)]; kernel_rfl) | (rw [if_neg (by decide +kernel)]; exact ⟨rfl, rfl⟩))
    (fun os started H enc _ => lifted os started H enc)
theorem proved : Rows.FnReductionsSaid := over
#print axioms proved
end Go.Proofs.YtlkmkabnbegfdaaGreat.fnReductions
namespace Go.Proofs.YtlkmkabnbegfdaaGreat
/-- The row, under a short name, for the claim. -/
theorem fnReductions_holds : Rows.FnReductionsSaid := fnReductions.proved
end Go.Proofs.YtlkmkabnbegfdaaGreat
