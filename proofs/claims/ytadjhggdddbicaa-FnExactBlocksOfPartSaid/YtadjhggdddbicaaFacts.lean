/- The evaluator's tables are the program's. -/
import Derived.KernelRfl
import Derived.Test.YtadjhggdddbicaaEnv
import Derived.Test.YtadjhggdddbicaaV3
set_option linter.unusedVariables false
namespace Go.Ev.Ytadjhggdddbicaa
open Go.Ev
theorem strOk : E.str.all (isStrB Go.Proofs.Try.prog) = true := by kernel_rfl
theorem tyOk : tyTab.all (fun q => tyOkB Go.Proofs.Try.prog q.2 q.1) = true := by kernel_rfl
theorem fa24 : FdOk Go.Proofs.Try.prog fd24 ∧ E.ld 24 = none ∧ (∀ r ∈ fd24.loops, E.ld r.2.lid = some ⟨24, r.1, r.2, false⟩) ∧ ∀ r ∈ fd24.joins, E.ld r.2.lid = some ⟨24, r.1, r.2, true⟩ :=
  ⟨FdOk.of Go.Proofs.Try.func24 (by kernel_rfl), by kernel_rfl, fun r hr => by
    simp only [fd24, List.mem_cons, List.not_mem_nil, or_false] at hr
    subst hr; kernel_rfl, fun r hr => absurd hr (by simp [fd24])⟩
theorem fa68 : FdOk Go.Proofs.Try.prog fd68 ∧ E.ld 68 = none ∧ (∀ r ∈ fd68.loops, E.ld r.2.lid = some ⟨68, r.1, r.2, false⟩) ∧ ∀ r ∈ fd68.joins, E.ld r.2.lid = some ⟨68, r.1, r.2, true⟩ :=
  ⟨FdOk.of Go.Proofs.Try.func68 (by kernel_rfl), by kernel_rfl, fun r hr => absurd hr (by simp [fd68]), fun r hr => absurd hr (by simp [fd68])⟩
theorem fa123 : FdOk Go.Proofs.Try.prog fd123 ∧ E.ld 123 = none ∧ (∀ r ∈ fd123.loops, E.ld r.2.lid = some ⟨123, r.1, r.2, false⟩) ∧ ∀ r ∈ fd123.joins, E.ld r.2.lid = some ⟨123, r.1, r.2, true⟩ :=
  ⟨FdOk.of Go.Proofs.Try.func123 (by kernel_rfl), by kernel_rfl, fun r hr => by
    simp only [fd123, List.mem_cons, List.not_mem_nil, or_false] at hr
    rcases hr with rfl | rfl | rfl <;> kernel_rfl, fun r hr => absurd hr (by simp [fd123])⟩
theorem fa88 : FdOk Go.Proofs.Try.prog fd88 ∧ E.ld 88 = none ∧ (∀ r ∈ fd88.loops, E.ld r.2.lid = some ⟨88, r.1, r.2, false⟩) ∧ ∀ r ∈ fd88.joins, E.ld r.2.lid = some ⟨88, r.1, r.2, true⟩ :=
  ⟨FdOk.of Go.Proofs.Try.func88 (by kernel_rfl), by kernel_rfl, fun r hr => by
    simp only [fd88, List.mem_cons, List.not_mem_nil, or_false] at hr
    rcases hr with rfl | rfl <;> kernel_rfl, fun r hr => absurd hr (by simp [fd88])⟩
theorem fa87 : FdOk Go.Proofs.Try.prog fd87 ∧ E.ld 87 = none ∧ (∀ r ∈ fd87.loops, E.ld r.2.lid = some ⟨87, r.1, r.2, false⟩) ∧ ∀ r ∈ fd87.joins, E.ld r.2.lid = some ⟨87, r.1, r.2, true⟩ :=
  ⟨FdOk.of Go.Proofs.Try.func87 (by kernel_rfl), by kernel_rfl, fun r hr => by
    simp only [fd87, List.mem_cons, List.not_mem_nil, or_false] at hr
    rcases hr with rfl | rfl | rfl | rfl <;> kernel_rfl, fun r hr => absurd hr (by simp [fd87])⟩
theorem fa75 : FdOk Go.Proofs.Try.prog fd75 ∧ E.ld 75 = none ∧ (∀ r ∈ fd75.loops, E.ld r.2.lid = some ⟨75, r.1, r.2, false⟩) ∧ ∀ r ∈ fd75.joins, E.ld r.2.lid = some ⟨75, r.1, r.2, true⟩ :=
  ⟨FdOk.of Go.Proofs.Try.func75 (by kernel_rfl), by kernel_rfl, fun r hr => absurd hr (by simp [fd75]), fun r hr => absurd hr (by simp [fd75])⟩
theorem fa81 : FdOk Go.Proofs.Try.prog fd81 ∧ E.ld 81 = none ∧ (∀ r ∈ fd81.loops, E.ld r.2.lid = some ⟨81, r.1, r.2, false⟩) ∧ ∀ r ∈ fd81.joins, E.ld r.2.lid = some ⟨81, r.1, r.2, true⟩ :=
  ⟨FdOk.of Go.Proofs.Try.func81 (by kernel_rfl), by kernel_rfl, fun r hr => by
    simp only [fd81, List.mem_cons, List.not_mem_nil, or_false] at hr
    rcases hr with rfl | rfl <;> kernel_rfl, fun r hr => absurd hr (by simp [fd81])⟩
theorem fa42 : FdOk Go.Proofs.Try.prog fd42 ∧ E.ld 42 = none ∧ (∀ r ∈ fd42.loops, E.ld r.2.lid = some ⟨42, r.1, r.2, false⟩) ∧ ∀ r ∈ fd42.joins, E.ld r.2.lid = some ⟨42, r.1, r.2, true⟩ :=
  ⟨FdOk.of Go.Proofs.Try.func42 (by kernel_rfl), by kernel_rfl, fun r hr => absurd hr (by simp [fd42]), fun r hr => absurd hr (by simp [fd42])⟩
theorem fa70 : FdOk Go.Proofs.Try.prog fd70 ∧ E.ld 70 = none ∧ (∀ r ∈ fd70.loops, E.ld r.2.lid = some ⟨70, r.1, r.2, false⟩) ∧ ∀ r ∈ fd70.joins, E.ld r.2.lid = some ⟨70, r.1, r.2, true⟩ :=
  ⟨FdOk.of Go.Proofs.Try.func70 (by kernel_rfl), by kernel_rfl, fun r hr => absurd hr (by simp [fd70]), fun r hr => absurd hr (by simp [fd70])⟩
theorem fa76 : FdOk Go.Proofs.Try.prog fd76 ∧ E.ld 76 = none ∧ (∀ r ∈ fd76.loops, E.ld r.2.lid = some ⟨76, r.1, r.2, false⟩) ∧ ∀ r ∈ fd76.joins, E.ld r.2.lid = some ⟨76, r.1, r.2, true⟩ :=
  ⟨FdOk.of Go.Proofs.Try.func76 (by kernel_rfl), by kernel_rfl, fun r hr => absurd hr (by simp [fd76]), fun r hr => absurd hr (by simp [fd76])⟩
theorem fa124 : FdOk Go.Proofs.Try.prog fd124 ∧ E.ld 124 = none ∧ (∀ r ∈ fd124.loops, E.ld r.2.lid = some ⟨124, r.1, r.2, false⟩) ∧ ∀ r ∈ fd124.joins, E.ld r.2.lid = some ⟨124, r.1, r.2, true⟩ :=
  ⟨FdOk.of Go.Proofs.Try.func124 (by kernel_rfl), by kernel_rfl, fun r hr => by
    simp only [fd124, List.mem_cons, List.not_mem_nil, or_false] at hr
    subst hr; kernel_rfl, fun r hr => absurd hr (by simp [fd124])⟩
theorem fa90 : FdOk Go.Proofs.Try.prog fd90 ∧ E.ld 90 = none ∧ (∀ r ∈ fd90.loops, E.ld r.2.lid = some ⟨90, r.1, r.2, false⟩) ∧ ∀ r ∈ fd90.joins, E.ld r.2.lid = some ⟨90, r.1, r.2, true⟩ :=
  ⟨FdOk.of Go.Proofs.Try.func90 (by kernel_rfl), by kernel_rfl, fun r hr => absurd hr (by simp [fd90]), fun r hr => absurd hr (by simp [fd90])⟩
theorem fa91 : FdOk Go.Proofs.Try.prog fd91 ∧ E.ld 91 = none ∧ (∀ r ∈ fd91.loops, E.ld r.2.lid = some ⟨91, r.1, r.2, false⟩) ∧ ∀ r ∈ fd91.joins, E.ld r.2.lid = some ⟨91, r.1, r.2, true⟩ :=
  ⟨FdOk.of Go.Proofs.Try.func91 (by kernel_rfl), by kernel_rfl, fun r hr => by
    simp only [fd91, List.mem_cons, List.not_mem_nil, or_false] at hr
    subst hr; kernel_rfl, fun r hr => absurd hr (by simp [fd91])⟩
theorem fa92 : FdOk Go.Proofs.Try.prog fd92 ∧ E.ld 92 = none ∧ (∀ r ∈ fd92.loops, E.ld r.2.lid = some ⟨92, r.1, r.2, false⟩) ∧ ∀ r ∈ fd92.joins, E.ld r.2.lid = some ⟨92, r.1, r.2, true⟩ :=
  ⟨FdOk.of Go.Proofs.Try.func92 (by kernel_rfl), by kernel_rfl, fun r hr => by
    simp only [fd92, List.mem_cons, List.not_mem_nil, or_false] at hr
    rcases hr with rfl | rfl <;> kernel_rfl, fun r hr => absurd hr (by simp [fd92])⟩
theorem fa77 : FdOk Go.Proofs.Try.prog fd77 ∧ E.ld 77 = none ∧ (∀ r ∈ fd77.loops, E.ld r.2.lid = some ⟨77, r.1, r.2, false⟩) ∧ ∀ r ∈ fd77.joins, E.ld r.2.lid = some ⟨77, r.1, r.2, true⟩ :=
  ⟨FdOk.of Go.Proofs.Try.func77 (by kernel_rfl), by kernel_rfl, fun r hr => by
    simp only [fd77, List.mem_cons, List.not_mem_nil, or_false] at hr
    subst hr; kernel_rfl, fun r hr => absurd hr (by simp [fd77])⟩
theorem fa78 : FdOk Go.Proofs.Try.prog fd78 ∧ E.ld 78 = none ∧ (∀ r ∈ fd78.loops, E.ld r.2.lid = some ⟨78, r.1, r.2, false⟩) ∧ ∀ r ∈ fd78.joins, E.ld r.2.lid = some ⟨78, r.1, r.2, true⟩ :=
  ⟨FdOk.of Go.Proofs.Try.func78 (by kernel_rfl), by kernel_rfl, fun r hr => by
    simp only [fd78, List.mem_cons, List.not_mem_nil, or_false] at hr
    rcases hr with rfl | rfl | rfl | rfl <;> kernel_rfl, fun r hr => absurd hr (by simp [fd78])⟩
theorem fa25 : FdOk Go.Proofs.Try.prog fd25 ∧ E.ld 25 = none ∧ (∀ r ∈ fd25.loops, E.ld r.2.lid = some ⟨25, r.1, r.2, false⟩) ∧ ∀ r ∈ fd25.joins, E.ld r.2.lid = some ⟨25, r.1, r.2, true⟩ :=
  ⟨FdOk.of Go.Proofs.Try.func25 (by kernel_rfl), by kernel_rfl, fun r hr => absurd hr (by simp [fd25]), fun r hr => absurd hr (by simp [fd25])⟩
theorem fa82 : FdOk Go.Proofs.Try.prog fd82 ∧ E.ld 82 = none ∧ (∀ r ∈ fd82.loops, E.ld r.2.lid = some ⟨82, r.1, r.2, false⟩) ∧ ∀ r ∈ fd82.joins, E.ld r.2.lid = some ⟨82, r.1, r.2, true⟩ :=
  ⟨FdOk.of Go.Proofs.Try.func82 (by kernel_rfl), by kernel_rfl, fun r hr => by
    simp only [fd82, List.mem_cons, List.not_mem_nil, or_false] at hr
    rcases hr with rfl | rfl <;> kernel_rfl, fun r hr => absurd hr (by simp [fd82])⟩
theorem fa43 : FdOk Go.Proofs.Try.prog fd43 ∧ E.ld 43 = none ∧ (∀ r ∈ fd43.loops, E.ld r.2.lid = some ⟨43, r.1, r.2, false⟩) ∧ ∀ r ∈ fd43.joins, E.ld r.2.lid = some ⟨43, r.1, r.2, true⟩ :=
  ⟨FdOk.of Go.Proofs.Try.func43 (by kernel_rfl), by kernel_rfl, fun r hr => absurd hr (by simp [fd43]), fun r hr => absurd hr (by simp [fd43])⟩
theorem fa72 : FdOk Go.Proofs.Try.prog fd72 ∧ E.ld 72 = none ∧ (∀ r ∈ fd72.loops, E.ld r.2.lid = some ⟨72, r.1, r.2, false⟩) ∧ ∀ r ∈ fd72.joins, E.ld r.2.lid = some ⟨72, r.1, r.2, true⟩ :=
  ⟨FdOk.of Go.Proofs.Try.func72 (by kernel_rfl), by kernel_rfl, fun r hr => by
    simp only [fd72, List.mem_cons, List.not_mem_nil, or_false] at hr
    subst hr; kernel_rfl, fun r hr => absurd hr (by simp [fd72])⟩
theorem fa37 : FdOk Go.Proofs.Try.prog fd37 ∧ E.ld 37 = none ∧ (∀ r ∈ fd37.loops, E.ld r.2.lid = some ⟨37, r.1, r.2, false⟩) ∧ ∀ r ∈ fd37.joins, E.ld r.2.lid = some ⟨37, r.1, r.2, true⟩ :=
  ⟨FdOk.of Go.Proofs.Try.func37 (by kernel_rfl), by kernel_rfl, fun r hr => by
    simp only [fd37, List.mem_cons, List.not_mem_nil, or_false] at hr
    subst hr; kernel_rfl, fun r hr => absurd hr (by simp [fd37])⟩
theorem fa73 : FdOk Go.Proofs.Try.prog fd73 ∧ E.ld 73 = none ∧ (∀ r ∈ fd73.loops, E.ld r.2.lid = some ⟨73, r.1, r.2, false⟩) ∧ ∀ r ∈ fd73.joins, E.ld r.2.lid = some ⟨73, r.1, r.2, true⟩ :=
  ⟨FdOk.of Go.Proofs.Try.func73 (by kernel_rfl), by kernel_rfl, fun r hr => by
    simp only [fd73, List.mem_cons, List.not_mem_nil, or_false] at hr
    subst hr; kernel_rfl, fun r hr => absurd hr (by simp [fd73])⟩
theorem fa44 : FdOk Go.Proofs.Try.prog fd44 ∧ E.ld 44 = none ∧ (∀ r ∈ fd44.loops, E.ld r.2.lid = some ⟨44, r.1, r.2, false⟩) ∧ ∀ r ∈ fd44.joins, E.ld r.2.lid = some ⟨44, r.1, r.2, true⟩ :=
  ⟨FdOk.of Go.Proofs.Try.func44 (by kernel_rfl), by kernel_rfl, fun r hr => by
    simp only [fd44, List.mem_cons, List.not_mem_nil, or_false] at hr
    subst hr; kernel_rfl, fun r hr => absurd hr (by simp [fd44])⟩
theorem fa74 : FdOk Go.Proofs.Try.prog fd74 ∧ E.ld 74 = none ∧ (∀ r ∈ fd74.loops, E.ld r.2.lid = some ⟨74, r.1, r.2, false⟩) ∧ ∀ r ∈ fd74.joins, E.ld r.2.lid = some ⟨74, r.1, r.2, true⟩ :=
  ⟨FdOk.of Go.Proofs.Try.func74 (by kernel_rfl), by kernel_rfl, fun r hr => by
    simp only [fd74, List.mem_cons, List.not_mem_nil, or_false] at hr
    subst hr; kernel_rfl, fun r hr => absurd hr (by simp [fd74])⟩
theorem fa45 : FdOk Go.Proofs.Try.prog fd45 ∧ E.ld 45 = none ∧ (∀ r ∈ fd45.loops, E.ld r.2.lid = some ⟨45, r.1, r.2, false⟩) ∧ ∀ r ∈ fd45.joins, E.ld r.2.lid = some ⟨45, r.1, r.2, true⟩ :=
  ⟨FdOk.of Go.Proofs.Try.func45 (by kernel_rfl), by kernel_rfl, fun r hr => by
    simp only [fd45, List.mem_cons, List.not_mem_nil, or_false] at hr
    subst hr; kernel_rfl, fun r hr => absurd hr (by simp [fd45])⟩
theorem fa11 : FdOk Go.Proofs.Try.prog fd11 ∧ E.ld 11 = none ∧ (∀ r ∈ fd11.loops, E.ld r.2.lid = some ⟨11, r.1, r.2, false⟩) ∧ ∀ r ∈ fd11.joins, E.ld r.2.lid = some ⟨11, r.1, r.2, true⟩ :=
  ⟨FdOk.of Go.Proofs.Try.func11 (by kernel_rfl), by kernel_rfl, fun r hr => absurd hr (by simp [fd11]), fun r hr => absurd hr (by simp [fd11])⟩
theorem envOk : EnvOk Go.Proofs.Try.prog E := EnvOk.of (envTy_of rfl tyOk strOk) (by kernel_rfl) rfl (by
  simp only [fdTab, List.forall_mem_cons]
  exact ⟨fa24, fa68, fa123, fa88, fa87, fa75, fa81, fa42, fa70, fa76, fa124, fa90, fa91, fa92, fa77, fa78, fa25, fa82, fa43, fa72, fa37, fa73, fa44, fa74, fa45, fa11, fun q hq => absurd hq (by simp)⟩) rfl (by
  simp only [extTab, List.forall_mem_cons]
  exact fun q hq => absurd hq (by simp))
end Go.Ev.Ytadjhggdddbicaa
