/- The evaluator's tables are the program's. -/
import Derived.KernelRfl
import Derived.Test.YtadjhggdddbicaaEnv
import Derived.Test.YtadjhggdddbicaaV3
set_option linter.unusedVariables false
namespace Go.Ev.Ytadjhggdddbicaa
open Go.Ev
theorem tyOk : tyTab.all (fun q => tyOkB Go.Proofs.Try.prog q.2 q.1) = true := by kernel_rfl
theorem fa68 : FdOk Go.Proofs.Try.prog fd68 ∧ E.ld 68 = none ∧ ∀ r ∈ fd68.loops, E.ld r.2.lid = some ⟨68, r.1, r.2⟩ :=
  ⟨FdOk.of Go.Proofs.Try.func68 (by kernel_rfl), by kernel_rfl, fun r hr => absurd hr (by simp [fd68])⟩
theorem fa69 : FdOk Go.Proofs.Try.prog fd69 ∧ E.ld 69 = none ∧ ∀ r ∈ fd69.loops, E.ld r.2.lid = some ⟨69, r.1, r.2⟩ :=
  ⟨FdOk.of Go.Proofs.Try.func69 (by kernel_rfl), by kernel_rfl, fun r hr => by
    simp only [fd69, List.mem_cons, List.not_mem_nil, or_false] at hr
    rcases hr with rfl | rfl <;> kernel_rfl⟩
theorem fa18 : FdOk Go.Proofs.Try.prog fd18 ∧ E.ld 18 = none ∧ ∀ r ∈ fd18.loops, E.ld r.2.lid = some ⟨18, r.1, r.2⟩ :=
  ⟨FdOk.of Go.Proofs.Try.func18 (by kernel_rfl), by kernel_rfl, fun r hr => absurd hr (by simp [fd18])⟩
theorem fa70 : FdOk Go.Proofs.Try.prog fd70 ∧ E.ld 70 = none ∧ ∀ r ∈ fd70.loops, E.ld r.2.lid = some ⟨70, r.1, r.2⟩ :=
  ⟨FdOk.of Go.Proofs.Try.func70 (by kernel_rfl), by kernel_rfl, fun r hr => absurd hr (by simp [fd70])⟩
theorem fa71 : FdOk Go.Proofs.Try.prog fd71 ∧ E.ld 71 = none ∧ ∀ r ∈ fd71.loops, E.ld r.2.lid = some ⟨71, r.1, r.2⟩ :=
  ⟨FdOk.of Go.Proofs.Try.func71 (by kernel_rfl), by kernel_rfl, fun r hr => by
    simp only [fd71, List.mem_cons, List.not_mem_nil, or_false] at hr
    rcases hr with rfl | rfl <;> kernel_rfl⟩
theorem fa19 : FdOk Go.Proofs.Try.prog fd19 ∧ E.ld 19 = none ∧ ∀ r ∈ fd19.loops, E.ld r.2.lid = some ⟨19, r.1, r.2⟩ :=
  ⟨FdOk.of Go.Proofs.Try.func19 (by kernel_rfl), by kernel_rfl, fun r hr => absurd hr (by simp [fd19])⟩
theorem fa72 : FdOk Go.Proofs.Try.prog fd72 ∧ E.ld 72 = none ∧ ∀ r ∈ fd72.loops, E.ld r.2.lid = some ⟨72, r.1, r.2⟩ :=
  ⟨FdOk.of Go.Proofs.Try.func72 (by kernel_rfl), by kernel_rfl, fun r hr => by
    simp only [fd72, List.mem_cons, List.not_mem_nil, or_false] at hr
    subst hr; kernel_rfl⟩
theorem fa20 : FdOk Go.Proofs.Try.prog fd20 ∧ E.ld 20 = none ∧ ∀ r ∈ fd20.loops, E.ld r.2.lid = some ⟨20, r.1, r.2⟩ :=
  ⟨FdOk.of Go.Proofs.Try.func20 (by kernel_rfl), by kernel_rfl, fun r hr => absurd hr (by simp [fd20])⟩
theorem fa73 : FdOk Go.Proofs.Try.prog fd73 ∧ E.ld 73 = none ∧ ∀ r ∈ fd73.loops, E.ld r.2.lid = some ⟨73, r.1, r.2⟩ :=
  ⟨FdOk.of Go.Proofs.Try.func73 (by kernel_rfl), by kernel_rfl, fun r hr => by
    simp only [fd73, List.mem_cons, List.not_mem_nil, or_false] at hr
    subst hr; kernel_rfl⟩
theorem fa21 : FdOk Go.Proofs.Try.prog fd21 ∧ E.ld 21 = none ∧ ∀ r ∈ fd21.loops, E.ld r.2.lid = some ⟨21, r.1, r.2⟩ :=
  ⟨FdOk.of Go.Proofs.Try.func21 (by kernel_rfl), by kernel_rfl, fun r hr => absurd hr (by simp [fd21])⟩
theorem fa74 : FdOk Go.Proofs.Try.prog fd74 ∧ E.ld 74 = none ∧ ∀ r ∈ fd74.loops, E.ld r.2.lid = some ⟨74, r.1, r.2⟩ :=
  ⟨FdOk.of Go.Proofs.Try.func74 (by kernel_rfl), by kernel_rfl, fun r hr => by
    simp only [fd74, List.mem_cons, List.not_mem_nil, or_false] at hr
    subst hr; kernel_rfl⟩
theorem fa22 : FdOk Go.Proofs.Try.prog fd22 ∧ E.ld 22 = none ∧ ∀ r ∈ fd22.loops, E.ld r.2.lid = some ⟨22, r.1, r.2⟩ :=
  ⟨FdOk.of Go.Proofs.Try.func22 (by kernel_rfl), by kernel_rfl, fun r hr => absurd hr (by simp [fd22])⟩
theorem fa3 : FdOk Go.Proofs.Try.prog fd3 ∧ E.ld 3 = none ∧ ∀ r ∈ fd3.loops, E.ld r.2.lid = some ⟨3, r.1, r.2⟩ :=
  ⟨FdOk.of Go.Proofs.Try.func3 (by kernel_rfl), by kernel_rfl, fun r hr => absurd hr (by simp [fd3])⟩
theorem fa24 : FdOk Go.Proofs.Try.prog fd24 ∧ E.ld 24 = none ∧ ∀ r ∈ fd24.loops, E.ld r.2.lid = some ⟨24, r.1, r.2⟩ :=
  ⟨FdOk.of Go.Proofs.Try.func24 (by kernel_rfl), by kernel_rfl, fun r hr => by
    simp only [fd24, List.mem_cons, List.not_mem_nil, or_false] at hr
    subst hr; kernel_rfl⟩
theorem fa123 : FdOk Go.Proofs.Try.prog fd123 ∧ E.ld 123 = none ∧ ∀ r ∈ fd123.loops, E.ld r.2.lid = some ⟨123, r.1, r.2⟩ :=
  ⟨FdOk.of Go.Proofs.Try.func123 (by kernel_rfl), by kernel_rfl, fun r hr => by
    simp only [fd123, List.mem_cons, List.not_mem_nil, or_false] at hr
    rcases hr with rfl | rfl | rfl <;> kernel_rfl⟩
theorem fa88 : FdOk Go.Proofs.Try.prog fd88 ∧ E.ld 88 = none ∧ ∀ r ∈ fd88.loops, E.ld r.2.lid = some ⟨88, r.1, r.2⟩ :=
  ⟨FdOk.of Go.Proofs.Try.func88 (by kernel_rfl), by kernel_rfl, fun r hr => by
    simp only [fd88, List.mem_cons, List.not_mem_nil, or_false] at hr
    rcases hr with rfl | rfl <;> kernel_rfl⟩
theorem fa87 : FdOk Go.Proofs.Try.prog fd87 ∧ E.ld 87 = none ∧ ∀ r ∈ fd87.loops, E.ld r.2.lid = some ⟨87, r.1, r.2⟩ :=
  ⟨FdOk.of Go.Proofs.Try.func87 (by kernel_rfl), by kernel_rfl, fun r hr => by
    simp only [fd87, List.mem_cons, List.not_mem_nil, or_false] at hr
    rcases hr with rfl | rfl | rfl | rfl <;> kernel_rfl⟩
theorem fa75 : FdOk Go.Proofs.Try.prog fd75 ∧ E.ld 75 = none ∧ ∀ r ∈ fd75.loops, E.ld r.2.lid = some ⟨75, r.1, r.2⟩ :=
  ⟨FdOk.of Go.Proofs.Try.func75 (by kernel_rfl), by kernel_rfl, fun r hr => absurd hr (by simp [fd75])⟩
theorem fa23 : FdOk Go.Proofs.Try.prog fd23 ∧ E.ld 23 = none ∧ ∀ r ∈ fd23.loops, E.ld r.2.lid = some ⟨23, r.1, r.2⟩ :=
  ⟨FdOk.of Go.Proofs.Try.func23 (by kernel_rfl), by kernel_rfl, fun r hr => absurd hr (by simp [fd23])⟩
theorem fa76 : FdOk Go.Proofs.Try.prog fd76 ∧ E.ld 76 = none ∧ ∀ r ∈ fd76.loops, E.ld r.2.lid = some ⟨76, r.1, r.2⟩ :=
  ⟨FdOk.of Go.Proofs.Try.func76 (by kernel_rfl), by kernel_rfl, fun r hr => absurd hr (by simp [fd76])⟩
theorem fa124 : FdOk Go.Proofs.Try.prog fd124 ∧ E.ld 124 = none ∧ ∀ r ∈ fd124.loops, E.ld r.2.lid = some ⟨124, r.1, r.2⟩ :=
  ⟨FdOk.of Go.Proofs.Try.func124 (by kernel_rfl), by kernel_rfl, fun r hr => by
    simp only [fd124, List.mem_cons, List.not_mem_nil, or_false] at hr
    subst hr; kernel_rfl⟩
theorem fa90 : FdOk Go.Proofs.Try.prog fd90 ∧ E.ld 90 = none ∧ ∀ r ∈ fd90.loops, E.ld r.2.lid = some ⟨90, r.1, r.2⟩ :=
  ⟨FdOk.of Go.Proofs.Try.func90 (by kernel_rfl), by kernel_rfl, fun r hr => absurd hr (by simp [fd90])⟩
theorem fa91 : FdOk Go.Proofs.Try.prog fd91 ∧ E.ld 91 = none ∧ ∀ r ∈ fd91.loops, E.ld r.2.lid = some ⟨91, r.1, r.2⟩ :=
  ⟨FdOk.of Go.Proofs.Try.func91 (by kernel_rfl), by kernel_rfl, fun r hr => by
    simp only [fd91, List.mem_cons, List.not_mem_nil, or_false] at hr
    subst hr; kernel_rfl⟩
theorem fa92 : FdOk Go.Proofs.Try.prog fd92 ∧ E.ld 92 = none ∧ ∀ r ∈ fd92.loops, E.ld r.2.lid = some ⟨92, r.1, r.2⟩ :=
  ⟨FdOk.of Go.Proofs.Try.func92 (by kernel_rfl), by kernel_rfl, fun r hr => by
    simp only [fd92, List.mem_cons, List.not_mem_nil, or_false] at hr
    rcases hr with rfl | rfl <;> kernel_rfl⟩
theorem fa77 : FdOk Go.Proofs.Try.prog fd77 ∧ E.ld 77 = none ∧ ∀ r ∈ fd77.loops, E.ld r.2.lid = some ⟨77, r.1, r.2⟩ :=
  ⟨FdOk.of Go.Proofs.Try.func77 (by kernel_rfl), by kernel_rfl, fun r hr => by
    simp only [fd77, List.mem_cons, List.not_mem_nil, or_false] at hr
    subst hr; kernel_rfl⟩
theorem fa78 : FdOk Go.Proofs.Try.prog fd78 ∧ E.ld 78 = none ∧ ∀ r ∈ fd78.loops, E.ld r.2.lid = some ⟨78, r.1, r.2⟩ :=
  ⟨FdOk.of Go.Proofs.Try.func78 (by kernel_rfl), by kernel_rfl, fun r hr => by
    simp only [fd78, List.mem_cons, List.not_mem_nil, or_false] at hr
    rcases hr with rfl | rfl | rfl | rfl <;> kernel_rfl⟩
theorem fa25 : FdOk Go.Proofs.Try.prog fd25 ∧ E.ld 25 = none ∧ ∀ r ∈ fd25.loops, E.ld r.2.lid = some ⟨25, r.1, r.2⟩ :=
  ⟨FdOk.of Go.Proofs.Try.func25 (by kernel_rfl), by kernel_rfl, fun r hr => absurd hr (by simp [fd25])⟩
theorem fa4 : FdOk Go.Proofs.Try.prog fd4 ∧ E.ld 4 = none ∧ ∀ r ∈ fd4.loops, E.ld r.2.lid = some ⟨4, r.1, r.2⟩ :=
  ⟨FdOk.of Go.Proofs.Try.func4 (by kernel_rfl), by kernel_rfl, fun r hr => absurd hr (by simp [fd4])⟩
theorem fa79 : FdOk Go.Proofs.Try.prog fd79 ∧ E.ld 79 = none ∧ ∀ r ∈ fd79.loops, E.ld r.2.lid = some ⟨79, r.1, r.2⟩ :=
  ⟨FdOk.of Go.Proofs.Try.func79 (by kernel_rfl), by kernel_rfl, fun r hr => by
    simp only [fd79, List.mem_cons, List.not_mem_nil, or_false] at hr
    subst hr; kernel_rfl⟩
theorem fa26 : FdOk Go.Proofs.Try.prog fd26 ∧ E.ld 26 = none ∧ ∀ r ∈ fd26.loops, E.ld r.2.lid = some ⟨26, r.1, r.2⟩ :=
  ⟨FdOk.of Go.Proofs.Try.func26 (by kernel_rfl), by kernel_rfl, fun r hr => absurd hr (by simp [fd26])⟩
theorem fa80 : FdOk Go.Proofs.Try.prog fd80 ∧ E.ld 80 = none ∧ ∀ r ∈ fd80.loops, E.ld r.2.lid = some ⟨80, r.1, r.2⟩ :=
  ⟨FdOk.of Go.Proofs.Try.func80 (by kernel_rfl), by kernel_rfl, fun r hr => by
    simp only [fd80, List.mem_cons, List.not_mem_nil, or_false] at hr
    subst hr; kernel_rfl⟩
theorem fa27 : FdOk Go.Proofs.Try.prog fd27 ∧ E.ld 27 = none ∧ ∀ r ∈ fd27.loops, E.ld r.2.lid = some ⟨27, r.1, r.2⟩ :=
  ⟨FdOk.of Go.Proofs.Try.func27 (by kernel_rfl), by kernel_rfl, fun r hr => absurd hr (by simp [fd27])⟩
theorem fa28 : FdOk Go.Proofs.Try.prog fd28 ∧ E.ld 28 = none ∧ ∀ r ∈ fd28.loops, E.ld r.2.lid = some ⟨28, r.1, r.2⟩ :=
  ⟨FdOk.of Go.Proofs.Try.func28 (by kernel_rfl), by kernel_rfl, fun r hr => by
    simp only [fd28, List.mem_cons, List.not_mem_nil, or_false] at hr
    subst hr; kernel_rfl⟩
theorem fa5 : FdOk Go.Proofs.Try.prog fd5 ∧ E.ld 5 = none ∧ ∀ r ∈ fd5.loops, E.ld r.2.lid = some ⟨5, r.1, r.2⟩ :=
  ⟨FdOk.of Go.Proofs.Try.func5 (by kernel_rfl), by kernel_rfl, fun r hr => absurd hr (by simp [fd5])⟩
theorem fa81 : FdOk Go.Proofs.Try.prog fd81 ∧ E.ld 81 = none ∧ ∀ r ∈ fd81.loops, E.ld r.2.lid = some ⟨81, r.1, r.2⟩ :=
  ⟨FdOk.of Go.Proofs.Try.func81 (by kernel_rfl), by kernel_rfl, fun r hr => by
    simp only [fd81, List.mem_cons, List.not_mem_nil, or_false] at hr
    rcases hr with rfl | rfl <;> kernel_rfl⟩
theorem fa29 : FdOk Go.Proofs.Try.prog fd29 ∧ E.ld 29 = none ∧ ∀ r ∈ fd29.loops, E.ld r.2.lid = some ⟨29, r.1, r.2⟩ :=
  ⟨FdOk.of Go.Proofs.Try.func29 (by kernel_rfl), by kernel_rfl, fun r hr => absurd hr (by simp [fd29])⟩
theorem fa82 : FdOk Go.Proofs.Try.prog fd82 ∧ E.ld 82 = none ∧ ∀ r ∈ fd82.loops, E.ld r.2.lid = some ⟨82, r.1, r.2⟩ :=
  ⟨FdOk.of Go.Proofs.Try.func82 (by kernel_rfl), by kernel_rfl, fun r hr => by
    simp only [fd82, List.mem_cons, List.not_mem_nil, or_false] at hr
    rcases hr with rfl | rfl <;> kernel_rfl⟩
theorem fa30 : FdOk Go.Proofs.Try.prog fd30 ∧ E.ld 30 = none ∧ ∀ r ∈ fd30.loops, E.ld r.2.lid = some ⟨30, r.1, r.2⟩ :=
  ⟨FdOk.of Go.Proofs.Try.func30 (by kernel_rfl), by kernel_rfl, fun r hr => absurd hr (by simp [fd30])⟩
theorem fa6 : FdOk Go.Proofs.Try.prog fd6 ∧ E.ld 6 = none ∧ ∀ r ∈ fd6.loops, E.ld r.2.lid = some ⟨6, r.1, r.2⟩ :=
  ⟨FdOk.of Go.Proofs.Try.func6 (by kernel_rfl), by kernel_rfl, fun r hr => absurd hr (by simp [fd6])⟩
theorem fa83 : FdOk Go.Proofs.Try.prog fd83 ∧ E.ld 83 = none ∧ ∀ r ∈ fd83.loops, E.ld r.2.lid = some ⟨83, r.1, r.2⟩ :=
  ⟨FdOk.of Go.Proofs.Try.func83 (by kernel_rfl), by kernel_rfl, fun r hr => absurd hr (by simp [fd83])⟩
theorem fa84 : FdOk Go.Proofs.Try.prog fd84 ∧ E.ld 84 = none ∧ ∀ r ∈ fd84.loops, E.ld r.2.lid = some ⟨84, r.1, r.2⟩ :=
  ⟨FdOk.of Go.Proofs.Try.func84 (by kernel_rfl), by kernel_rfl, fun r hr => by
    simp only [fd84, List.mem_cons, List.not_mem_nil, or_false] at hr
    rcases hr with rfl | rfl <;> kernel_rfl⟩
theorem fa31 : FdOk Go.Proofs.Try.prog fd31 ∧ E.ld 31 = none ∧ ∀ r ∈ fd31.loops, E.ld r.2.lid = some ⟨31, r.1, r.2⟩ :=
  ⟨FdOk.of Go.Proofs.Try.func31 (by kernel_rfl), by kernel_rfl, fun r hr => absurd hr (by simp [fd31])⟩
theorem fa85 : FdOk Go.Proofs.Try.prog fd85 ∧ E.ld 85 = none ∧ ∀ r ∈ fd85.loops, E.ld r.2.lid = some ⟨85, r.1, r.2⟩ :=
  ⟨FdOk.of Go.Proofs.Try.func85 (by kernel_rfl), by kernel_rfl, fun r hr => by
    simp only [fd85, List.mem_cons, List.not_mem_nil, or_false] at hr
    rcases hr with rfl | rfl <;> kernel_rfl⟩
theorem fa32 : FdOk Go.Proofs.Try.prog fd32 ∧ E.ld 32 = none ∧ ∀ r ∈ fd32.loops, E.ld r.2.lid = some ⟨32, r.1, r.2⟩ :=
  ⟨FdOk.of Go.Proofs.Try.func32 (by kernel_rfl), by kernel_rfl, fun r hr => absurd hr (by simp [fd32])⟩
theorem fa7 : FdOk Go.Proofs.Try.prog fd7 ∧ E.ld 7 = none ∧ ∀ r ∈ fd7.loops, E.ld r.2.lid = some ⟨7, r.1, r.2⟩ :=
  ⟨FdOk.of Go.Proofs.Try.func7 (by kernel_rfl), by kernel_rfl, fun r hr => absurd hr (by simp [fd7])⟩
theorem fa86 : FdOk Go.Proofs.Try.prog fd86 ∧ E.ld 86 = none ∧ ∀ r ∈ fd86.loops, E.ld r.2.lid = some ⟨86, r.1, r.2⟩ :=
  ⟨FdOk.of Go.Proofs.Try.func86 (by kernel_rfl), by kernel_rfl, fun r hr => absurd hr (by simp [fd86])⟩
theorem fa33 : FdOk Go.Proofs.Try.prog fd33 ∧ E.ld 33 = none ∧ ∀ r ∈ fd33.loops, E.ld r.2.lid = some ⟨33, r.1, r.2⟩ :=
  ⟨FdOk.of Go.Proofs.Try.func33 (by kernel_rfl), by kernel_rfl, fun r hr => by
    simp only [fd33, List.mem_cons, List.not_mem_nil, or_false] at hr
    subst hr; kernel_rfl⟩
theorem fa89 : FdOk Go.Proofs.Try.prog fd89 ∧ E.ld 89 = none ∧ ∀ r ∈ fd89.loops, E.ld r.2.lid = some ⟨89, r.1, r.2⟩ :=
  ⟨FdOk.of Go.Proofs.Try.func89 (by kernel_rfl), by kernel_rfl, fun r hr => by
    simp only [fd89, List.mem_cons, List.not_mem_nil, or_false] at hr
    subst hr; kernel_rfl⟩
theorem fa35 : FdOk Go.Proofs.Try.prog fd35 ∧ E.ld 35 = none ∧ ∀ r ∈ fd35.loops, E.ld r.2.lid = some ⟨35, r.1, r.2⟩ :=
  ⟨FdOk.of Go.Proofs.Try.func35 (by kernel_rfl), by kernel_rfl, fun r hr => by
    simp only [fd35, List.mem_cons, List.not_mem_nil, or_false] at hr
    subst hr; kernel_rfl⟩
theorem fa34 : FdOk Go.Proofs.Try.prog fd34 ∧ E.ld 34 = none ∧ ∀ r ∈ fd34.loops, E.ld r.2.lid = some ⟨34, r.1, r.2⟩ :=
  ⟨FdOk.of Go.Proofs.Try.func34 (by kernel_rfl), by kernel_rfl, fun r hr => by
    simp only [fd34, List.mem_cons, List.not_mem_nil, or_false] at hr
    rcases hr with rfl | rfl <;> kernel_rfl⟩
theorem fa36 : FdOk Go.Proofs.Try.prog fd36 ∧ E.ld 36 = none ∧ ∀ r ∈ fd36.loops, E.ld r.2.lid = some ⟨36, r.1, r.2⟩ :=
  ⟨FdOk.of Go.Proofs.Try.func36 (by kernel_rfl), by kernel_rfl, fun r hr => by
    simp only [fd36, List.mem_cons, List.not_mem_nil, or_false] at hr
    rcases hr with rfl | rfl <;> kernel_rfl⟩
theorem fa37 : FdOk Go.Proofs.Try.prog fd37 ∧ E.ld 37 = none ∧ ∀ r ∈ fd37.loops, E.ld r.2.lid = some ⟨37, r.1, r.2⟩ :=
  ⟨FdOk.of Go.Proofs.Try.func37 (by kernel_rfl), by kernel_rfl, fun r hr => by
    simp only [fd37, List.mem_cons, List.not_mem_nil, or_false] at hr
    subst hr; kernel_rfl⟩
theorem fa8 : FdOk Go.Proofs.Try.prog fd8 ∧ E.ld 8 = none ∧ ∀ r ∈ fd8.loops, E.ld r.2.lid = some ⟨8, r.1, r.2⟩ :=
  ⟨FdOk.of Go.Proofs.Try.func8 (by kernel_rfl), by kernel_rfl, fun r hr => absurd hr (by simp [fd8])⟩
theorem fa97 : FdOk Go.Proofs.Try.prog fd97 ∧ E.ld 97 = none ∧ ∀ r ∈ fd97.loops, E.ld r.2.lid = some ⟨97, r.1, r.2⟩ :=
  ⟨FdOk.of Go.Proofs.Try.func97 (by kernel_rfl), by kernel_rfl, fun r hr => by
    simp only [fd97, List.mem_cons, List.not_mem_nil, or_false] at hr
    subst hr; kernel_rfl⟩
theorem fa96 : FdOk Go.Proofs.Try.prog fd96 ∧ E.ld 96 = none ∧ ∀ r ∈ fd96.loops, E.ld r.2.lid = some ⟨96, r.1, r.2⟩ :=
  ⟨FdOk.of Go.Proofs.Try.func96 (by kernel_rfl), by kernel_rfl, fun r hr => by
    simp only [fd96, List.mem_cons, List.not_mem_nil, or_false] at hr
    subst hr; kernel_rfl⟩
theorem fa95 : FdOk Go.Proofs.Try.prog fd95 ∧ E.ld 95 = none ∧ ∀ r ∈ fd95.loops, E.ld r.2.lid = some ⟨95, r.1, r.2⟩ :=
  ⟨FdOk.of Go.Proofs.Try.func95 (by kernel_rfl), by kernel_rfl, fun r hr => by
    simp only [fd95, List.mem_cons, List.not_mem_nil, or_false] at hr
    subst hr; kernel_rfl⟩
theorem fa93 : FdOk Go.Proofs.Try.prog fd93 ∧ E.ld 93 = none ∧ ∀ r ∈ fd93.loops, E.ld r.2.lid = some ⟨93, r.1, r.2⟩ :=
  ⟨FdOk.of Go.Proofs.Try.func93 (by kernel_rfl), by kernel_rfl, fun r hr => absurd hr (by simp [fd93])⟩
theorem fa38 : FdOk Go.Proofs.Try.prog fd38 ∧ E.ld 38 = none ∧ ∀ r ∈ fd38.loops, E.ld r.2.lid = some ⟨38, r.1, r.2⟩ :=
  ⟨FdOk.of Go.Proofs.Try.func38 (by kernel_rfl), by kernel_rfl, fun r hr => absurd hr (by simp [fd38])⟩
theorem fa139 : FdOk Go.Proofs.Try.prog fd139 ∧ E.ld 139 = none ∧ ∀ r ∈ fd139.loops, E.ld r.2.lid = some ⟨139, r.1, r.2⟩ :=
  ⟨FdOk.of Go.Proofs.Try.func139 (by kernel_rfl), by kernel_rfl, fun r hr => by
    simp only [fd139, List.mem_cons, List.not_mem_nil, or_false] at hr
    subst hr; kernel_rfl⟩
theorem fa126 : FdOk Go.Proofs.Try.prog fd126 ∧ E.ld 126 = none ∧ ∀ r ∈ fd126.loops, E.ld r.2.lid = some ⟨126, r.1, r.2⟩ :=
  ⟨FdOk.of Go.Proofs.Try.func126 (by kernel_rfl), by kernel_rfl, fun r hr => absurd hr (by simp [fd126])⟩
theorem fa104 : FdOk Go.Proofs.Try.prog fd104 ∧ E.ld 104 = none ∧ ∀ r ∈ fd104.loops, E.ld r.2.lid = some ⟨104, r.1, r.2⟩ :=
  ⟨FdOk.of Go.Proofs.Try.func104 (by kernel_rfl), by kernel_rfl, fun r hr => by
    simp only [fd104, List.mem_cons, List.not_mem_nil, or_false] at hr
    subst hr; kernel_rfl⟩
theorem fa138 : FdOk Go.Proofs.Try.prog fd138 ∧ E.ld 138 = none ∧ ∀ r ∈ fd138.loops, E.ld r.2.lid = some ⟨138, r.1, r.2⟩ :=
  ⟨FdOk.of Go.Proofs.Try.func138 (by kernel_rfl), by kernel_rfl, fun r hr => by
    simp only [fd138, List.mem_cons, List.not_mem_nil, or_false] at hr
    subst hr; kernel_rfl⟩
theorem fa125 : FdOk Go.Proofs.Try.prog fd125 ∧ E.ld 125 = none ∧ ∀ r ∈ fd125.loops, E.ld r.2.lid = some ⟨125, r.1, r.2⟩ :=
  ⟨FdOk.of Go.Proofs.Try.func125 (by kernel_rfl), by kernel_rfl, fun r hr => absurd hr (by simp [fd125])⟩
theorem fa94 : FdOk Go.Proofs.Try.prog fd94 ∧ E.ld 94 = none ∧ ∀ r ∈ fd94.loops, E.ld r.2.lid = some ⟨94, r.1, r.2⟩ :=
  ⟨FdOk.of Go.Proofs.Try.func94 (by kernel_rfl), by kernel_rfl, fun r hr => absurd hr (by simp [fd94])⟩
theorem fa39 : FdOk Go.Proofs.Try.prog fd39 ∧ E.ld 39 = none ∧ ∀ r ∈ fd39.loops, E.ld r.2.lid = some ⟨39, r.1, r.2⟩ :=
  ⟨FdOk.of Go.Proofs.Try.func39 (by kernel_rfl), by kernel_rfl, fun r hr => absurd hr (by simp [fd39])⟩
theorem fa9 : FdOk Go.Proofs.Try.prog fd9 ∧ E.ld 9 = none ∧ ∀ r ∈ fd9.loops, E.ld r.2.lid = some ⟨9, r.1, r.2⟩ :=
  ⟨FdOk.of Go.Proofs.Try.func9 (by kernel_rfl), by kernel_rfl, fun r hr => absurd hr (by simp [fd9])⟩
theorem fa40 : FdOk Go.Proofs.Try.prog fd40 ∧ E.ld 40 = none ∧ ∀ r ∈ fd40.loops, E.ld r.2.lid = some ⟨40, r.1, r.2⟩ :=
  ⟨FdOk.of Go.Proofs.Try.func40 (by kernel_rfl), by kernel_rfl, fun r hr => absurd hr (by simp [fd40])⟩
theorem fa41 : FdOk Go.Proofs.Try.prog fd41 ∧ E.ld 41 = none ∧ ∀ r ∈ fd41.loops, E.ld r.2.lid = some ⟨41, r.1, r.2⟩ :=
  ⟨FdOk.of Go.Proofs.Try.func41 (by kernel_rfl), by kernel_rfl, fun r hr => by
    simp only [fd41, List.mem_cons, List.not_mem_nil, or_false] at hr
    rcases hr with rfl | rfl <;> kernel_rfl⟩
theorem fa10 : FdOk Go.Proofs.Try.prog fd10 ∧ E.ld 10 = none ∧ ∀ r ∈ fd10.loops, E.ld r.2.lid = some ⟨10, r.1, r.2⟩ :=
  ⟨FdOk.of Go.Proofs.Try.func10 (by kernel_rfl), by kernel_rfl, fun r hr => absurd hr (by simp [fd10])⟩
theorem fa98 : FdOk Go.Proofs.Try.prog fd98 ∧ E.ld 98 = none ∧ ∀ r ∈ fd98.loops, E.ld r.2.lid = some ⟨98, r.1, r.2⟩ :=
  ⟨FdOk.of Go.Proofs.Try.func98 (by kernel_rfl), by kernel_rfl, fun r hr => by
    simp only [fd98, List.mem_cons, List.not_mem_nil, or_false] at hr
    rcases hr with rfl | rfl <;> kernel_rfl⟩
theorem fa46 : FdOk Go.Proofs.Try.prog fd46 ∧ E.ld 46 = none ∧ ∀ r ∈ fd46.loops, E.ld r.2.lid = some ⟨46, r.1, r.2⟩ :=
  ⟨FdOk.of Go.Proofs.Try.func46 (by kernel_rfl), by kernel_rfl, fun r hr => absurd hr (by simp [fd46])⟩
theorem fa99 : FdOk Go.Proofs.Try.prog fd99 ∧ E.ld 99 = none ∧ ∀ r ∈ fd99.loops, E.ld r.2.lid = some ⟨99, r.1, r.2⟩ :=
  ⟨FdOk.of Go.Proofs.Try.func99 (by kernel_rfl), by kernel_rfl, fun r hr => by
    simp only [fd99, List.mem_cons, List.not_mem_nil, or_false] at hr
    rcases hr with rfl | rfl <;> kernel_rfl⟩
theorem fa47 : FdOk Go.Proofs.Try.prog fd47 ∧ E.ld 47 = none ∧ ∀ r ∈ fd47.loops, E.ld r.2.lid = some ⟨47, r.1, r.2⟩ :=
  ⟨FdOk.of Go.Proofs.Try.func47 (by kernel_rfl), by kernel_rfl, fun r hr => absurd hr (by simp [fd47])⟩
theorem fa12 : FdOk Go.Proofs.Try.prog fd12 ∧ E.ld 12 = none ∧ ∀ r ∈ fd12.loops, E.ld r.2.lid = some ⟨12, r.1, r.2⟩ :=
  ⟨FdOk.of Go.Proofs.Try.func12 (by kernel_rfl), by kernel_rfl, fun r hr => absurd hr (by simp [fd12])⟩
theorem fa100 : FdOk Go.Proofs.Try.prog fd100 ∧ E.ld 100 = none ∧ ∀ r ∈ fd100.loops, E.ld r.2.lid = some ⟨100, r.1, r.2⟩ :=
  ⟨FdOk.of Go.Proofs.Try.func100 (by kernel_rfl), by kernel_rfl, fun r hr => absurd hr (by simp [fd100])⟩
theorem fa48 : FdOk Go.Proofs.Try.prog fd48 ∧ E.ld 48 = none ∧ ∀ r ∈ fd48.loops, E.ld r.2.lid = some ⟨48, r.1, r.2⟩ :=
  ⟨FdOk.of Go.Proofs.Try.func48 (by kernel_rfl), by kernel_rfl, fun r hr => absurd hr (by simp [fd48])⟩
theorem fa102 : FdOk Go.Proofs.Try.prog fd102 ∧ E.ld 102 = none ∧ ∀ r ∈ fd102.loops, E.ld r.2.lid = some ⟨102, r.1, r.2⟩ :=
  ⟨FdOk.of Go.Proofs.Try.func102 (by kernel_rfl), by kernel_rfl, fun r hr => by
    simp only [fd102, List.mem_cons, List.not_mem_nil, or_false] at hr
    subst hr; kernel_rfl⟩
theorem fa50 : FdOk Go.Proofs.Try.prog fd50 ∧ E.ld 50 = none ∧ ∀ r ∈ fd50.loops, E.ld r.2.lid = some ⟨50, r.1, r.2⟩ :=
  ⟨FdOk.of Go.Proofs.Try.func50 (by kernel_rfl), by kernel_rfl, fun r hr => absurd hr (by simp [fd50])⟩
theorem fa152 : FdOk Go.Proofs.Try.prog fd152 ∧ E.ld 152 = none ∧ ∀ r ∈ fd152.loops, E.ld r.2.lid = some ⟨152, r.1, r.2⟩ :=
  ⟨FdOk.of Go.Proofs.Try.func152 (by kernel_rfl), by kernel_rfl, fun r hr => by
    simp only [fd152, List.mem_cons, List.not_mem_nil, or_false] at hr
    rcases hr with rfl | rfl <;> kernel_rfl⟩
theorem fa140 : FdOk Go.Proofs.Try.prog fd140 ∧ E.ld 140 = none ∧ ∀ r ∈ fd140.loops, E.ld r.2.lid = some ⟨140, r.1, r.2⟩ :=
  ⟨FdOk.of Go.Proofs.Try.func140 (by kernel_rfl), by kernel_rfl, fun r hr => by
    simp only [fd140, List.mem_cons, List.not_mem_nil, or_false] at hr
    subst hr; kernel_rfl⟩
theorem fa127 : FdOk Go.Proofs.Try.prog fd127 ∧ E.ld 127 = none ∧ ∀ r ∈ fd127.loops, E.ld r.2.lid = some ⟨127, r.1, r.2⟩ :=
  ⟨FdOk.of Go.Proofs.Try.func127 (by kernel_rfl), by kernel_rfl, fun r hr => absurd hr (by simp [fd127])⟩
theorem fa101 : FdOk Go.Proofs.Try.prog fd101 ∧ E.ld 101 = none ∧ ∀ r ∈ fd101.loops, E.ld r.2.lid = some ⟨101, r.1, r.2⟩ :=
  ⟨FdOk.of Go.Proofs.Try.func101 (by kernel_rfl), by kernel_rfl, fun r hr => by
    simp only [fd101, List.mem_cons, List.not_mem_nil, or_false] at hr
    subst hr; kernel_rfl⟩
theorem fa49 : FdOk Go.Proofs.Try.prog fd49 ∧ E.ld 49 = none ∧ ∀ r ∈ fd49.loops, E.ld r.2.lid = some ⟨49, r.1, r.2⟩ :=
  ⟨FdOk.of Go.Proofs.Try.func49 (by kernel_rfl), by kernel_rfl, fun r hr => absurd hr (by simp [fd49])⟩
theorem fa128 : FdOk Go.Proofs.Try.prog fd128 ∧ E.ld 128 = none ∧ ∀ r ∈ fd128.loops, E.ld r.2.lid = some ⟨128, r.1, r.2⟩ :=
  ⟨FdOk.of Go.Proofs.Try.func128 (by kernel_rfl), by kernel_rfl, fun r hr => by
    simp only [fd128, List.mem_cons, List.not_mem_nil, or_false] at hr
    subst hr; kernel_rfl⟩
theorem fa103 : FdOk Go.Proofs.Try.prog fd103 ∧ E.ld 103 = none ∧ ∀ r ∈ fd103.loops, E.ld r.2.lid = some ⟨103, r.1, r.2⟩ :=
  ⟨FdOk.of Go.Proofs.Try.func103 (by kernel_rfl), by kernel_rfl, fun r hr => absurd hr (by simp [fd103])⟩
theorem fa51 : FdOk Go.Proofs.Try.prog fd51 ∧ E.ld 51 = none ∧ ∀ r ∈ fd51.loops, E.ld r.2.lid = some ⟨51, r.1, r.2⟩ :=
  ⟨FdOk.of Go.Proofs.Try.func51 (by kernel_rfl), by kernel_rfl, fun r hr => by
    simp only [fd51, List.mem_cons, List.not_mem_nil, or_false] at hr
    subst hr; kernel_rfl⟩
theorem fa55 : FdOk Go.Proofs.Try.prog fd55 ∧ E.ld 55 = none ∧ ∀ r ∈ fd55.loops, E.ld r.2.lid = some ⟨55, r.1, r.2⟩ :=
  ⟨FdOk.of Go.Proofs.Try.func55 (by kernel_rfl), by kernel_rfl, fun r hr => by
    simp only [fd55, List.mem_cons, List.not_mem_nil, or_false] at hr
    subst hr; kernel_rfl⟩
theorem fa52 : FdOk Go.Proofs.Try.prog fd52 ∧ E.ld 52 = none ∧ ∀ r ∈ fd52.loops, E.ld r.2.lid = some ⟨52, r.1, r.2⟩ :=
  ⟨FdOk.of Go.Proofs.Try.func52 (by kernel_rfl), by kernel_rfl, fun r hr => absurd hr (by simp [fd52])⟩
theorem fa13 : FdOk Go.Proofs.Try.prog fd13 ∧ E.ld 13 = none ∧ ∀ r ∈ fd13.loops, E.ld r.2.lid = some ⟨13, r.1, r.2⟩ :=
  ⟨FdOk.of Go.Proofs.Try.func13 (by kernel_rfl), by kernel_rfl, fun r hr => absurd hr (by simp [fd13])⟩
theorem fa58 : FdOk Go.Proofs.Try.prog fd58 ∧ E.ld 58 = none ∧ ∀ r ∈ fd58.loops, E.ld r.2.lid = some ⟨58, r.1, r.2⟩ :=
  ⟨FdOk.of Go.Proofs.Try.func58 (by kernel_rfl), by kernel_rfl, fun r hr => absurd hr (by simp [fd58])⟩
theorem fa60 : FdOk Go.Proofs.Try.prog fd60 ∧ E.ld 60 = none ∧ ∀ r ∈ fd60.loops, E.ld r.2.lid = some ⟨60, r.1, r.2⟩ :=
  ⟨FdOk.of Go.Proofs.Try.func60 (by kernel_rfl), by kernel_rfl, fun r hr => absurd hr (by simp [fd60])⟩
theorem fa111 : FdOk Go.Proofs.Try.prog fd111 ∧ E.ld 111 = none ∧ ∀ r ∈ fd111.loops, E.ld r.2.lid = some ⟨111, r.1, r.2⟩ :=
  ⟨FdOk.of Go.Proofs.Try.func111 (by kernel_rfl), by kernel_rfl, fun r hr => by
    simp only [fd111, List.mem_cons, List.not_mem_nil, or_false] at hr
    subst hr; kernel_rfl⟩
theorem fa133 : FdOk Go.Proofs.Try.prog fd133 ∧ E.ld 133 = none ∧ ∀ r ∈ fd133.loops, E.ld r.2.lid = some ⟨133, r.1, r.2⟩ :=
  ⟨FdOk.of Go.Proofs.Try.func133 (by kernel_rfl), by kernel_rfl, fun r hr => by
    simp only [fd133, List.mem_cons, List.not_mem_nil, or_false] at hr
    rcases hr with rfl | rfl <;> kernel_rfl⟩
theorem fa112 : FdOk Go.Proofs.Try.prog fd112 ∧ E.ld 112 = none ∧ ∀ r ∈ fd112.loops, E.ld r.2.lid = some ⟨112, r.1, r.2⟩ :=
  ⟨FdOk.of Go.Proofs.Try.func112 (by kernel_rfl), by kernel_rfl, fun r hr => by
    simp only [fd112, List.mem_cons, List.not_mem_nil, or_false] at hr
    rcases hr with rfl | rfl <;> kernel_rfl⟩
theorem fa59 : FdOk Go.Proofs.Try.prog fd59 ∧ E.ld 59 = none ∧ ∀ r ∈ fd59.loops, E.ld r.2.lid = some ⟨59, r.1, r.2⟩ :=
  ⟨FdOk.of Go.Proofs.Try.func59 (by kernel_rfl), by kernel_rfl, fun r hr => absurd hr (by simp [fd59])⟩
theorem fa134 : FdOk Go.Proofs.Try.prog fd134 ∧ E.ld 134 = none ∧ ∀ r ∈ fd134.loops, E.ld r.2.lid = some ⟨134, r.1, r.2⟩ :=
  ⟨FdOk.of Go.Proofs.Try.func134 (by kernel_rfl), by kernel_rfl, fun r hr => absurd hr (by simp [fd134])⟩
theorem fa113 : FdOk Go.Proofs.Try.prog fd113 ∧ E.ld 113 = none ∧ ∀ r ∈ fd113.loops, E.ld r.2.lid = some ⟨113, r.1, r.2⟩ :=
  ⟨FdOk.of Go.Proofs.Try.func113 (by kernel_rfl), by kernel_rfl, fun r hr => by
    simp only [fd113, List.mem_cons, List.not_mem_nil, or_false] at hr
    subst hr; kernel_rfl⟩
theorem fa119 : FdOk Go.Proofs.Try.prog fd119 ∧ E.ld 119 = none ∧ ∀ r ∈ fd119.loops, E.ld r.2.lid = some ⟨119, r.1, r.2⟩ :=
  ⟨FdOk.of Go.Proofs.Try.func119 (by kernel_rfl), by kernel_rfl, fun r hr => absurd hr (by simp [fd119])⟩
theorem fa135 : FdOk Go.Proofs.Try.prog fd135 ∧ E.ld 135 = none ∧ ∀ r ∈ fd135.loops, E.ld r.2.lid = some ⟨135, r.1, r.2⟩ :=
  ⟨FdOk.of Go.Proofs.Try.func135 (by kernel_rfl), by kernel_rfl, fun r hr => absurd hr (by simp [fd135])⟩
theorem fa136 : FdOk Go.Proofs.Try.prog fd136 ∧ E.ld 136 = none ∧ ∀ r ∈ fd136.loops, E.ld r.2.lid = some ⟨136, r.1, r.2⟩ :=
  ⟨FdOk.of Go.Proofs.Try.func136 (by kernel_rfl), by kernel_rfl, fun r hr => by
    simp only [fd136, List.mem_cons, List.not_mem_nil, or_false] at hr
    rcases hr with rfl | rfl | rfl <;> kernel_rfl⟩
theorem fa137 : FdOk Go.Proofs.Try.prog fd137 ∧ E.ld 137 = none ∧ ∀ r ∈ fd137.loops, E.ld r.2.lid = some ⟨137, r.1, r.2⟩ :=
  ⟨FdOk.of Go.Proofs.Try.func137 (by kernel_rfl), by kernel_rfl, fun r hr => by
    simp only [fd137, List.mem_cons, List.not_mem_nil, or_false] at hr
    subst hr; kernel_rfl⟩
theorem fa114 : FdOk Go.Proofs.Try.prog fd114 ∧ E.ld 114 = none ∧ ∀ r ∈ fd114.loops, E.ld r.2.lid = some ⟨114, r.1, r.2⟩ :=
  ⟨FdOk.of Go.Proofs.Try.func114 (by kernel_rfl), by kernel_rfl, fun r hr => by
    simp only [fd114, List.mem_cons, List.not_mem_nil, or_false] at hr
    subst hr; kernel_rfl⟩
theorem fa61 : FdOk Go.Proofs.Try.prog fd61 ∧ E.ld 61 = none ∧ ∀ r ∈ fd61.loops, E.ld r.2.lid = some ⟨61, r.1, r.2⟩ :=
  ⟨FdOk.of Go.Proofs.Try.func61 (by kernel_rfl), by kernel_rfl, fun r hr => absurd hr (by simp [fd61])⟩
theorem fa56 : FdOk Go.Proofs.Try.prog fd56 ∧ E.ld 56 = none ∧ ∀ r ∈ fd56.loops, E.ld r.2.lid = some ⟨56, r.1, r.2⟩ :=
  ⟨FdOk.of Go.Proofs.Try.func56 (by kernel_rfl), by kernel_rfl, fun r hr => by
    simp only [fd56, List.mem_cons, List.not_mem_nil, or_false] at hr
    rcases hr with rfl | rfl <;> kernel_rfl⟩
theorem fa62 : FdOk Go.Proofs.Try.prog fd62 ∧ E.ld 62 = none ∧ ∀ r ∈ fd62.loops, E.ld r.2.lid = some ⟨62, r.1, r.2⟩ :=
  ⟨FdOk.of Go.Proofs.Try.func62 (by kernel_rfl), by kernel_rfl, fun r hr => absurd hr (by simp [fd62])⟩
theorem fa57 : FdOk Go.Proofs.Try.prog fd57 ∧ E.ld 57 = none ∧ ∀ r ∈ fd57.loops, E.ld r.2.lid = some ⟨57, r.1, r.2⟩ :=
  ⟨FdOk.of Go.Proofs.Try.func57 (by kernel_rfl), by kernel_rfl, fun r hr => by
    simp only [fd57, List.mem_cons, List.not_mem_nil, or_false] at hr
    rcases hr with rfl | rfl <;> kernel_rfl⟩
theorem fa63 : FdOk Go.Proofs.Try.prog fd63 ∧ E.ld 63 = none ∧ ∀ r ∈ fd63.loops, E.ld r.2.lid = some ⟨63, r.1, r.2⟩ :=
  ⟨FdOk.of Go.Proofs.Try.func63 (by kernel_rfl), by kernel_rfl, fun r hr => absurd hr (by simp [fd63])⟩
theorem fa15 : FdOk Go.Proofs.Try.prog fd15 ∧ E.ld 15 = none ∧ ∀ r ∈ fd15.loops, E.ld r.2.lid = some ⟨15, r.1, r.2⟩ :=
  ⟨FdOk.of Go.Proofs.Try.func15 (by kernel_rfl), by kernel_rfl, fun r hr => absurd hr (by simp [fd15])⟩
theorem fa115 : FdOk Go.Proofs.Try.prog fd115 ∧ E.ld 115 = none ∧ ∀ r ∈ fd115.loops, E.ld r.2.lid = some ⟨115, r.1, r.2⟩ :=
  ⟨FdOk.of Go.Proofs.Try.func115 (by kernel_rfl), by kernel_rfl, fun r hr => by
    simp only [fd115, List.mem_cons, List.not_mem_nil, or_false] at hr
    subst hr; kernel_rfl⟩
theorem fa64 : FdOk Go.Proofs.Try.prog fd64 ∧ E.ld 64 = none ∧ ∀ r ∈ fd64.loops, E.ld r.2.lid = some ⟨64, r.1, r.2⟩ :=
  ⟨FdOk.of Go.Proofs.Try.func64 (by kernel_rfl), by kernel_rfl, fun r hr => by
    simp only [fd64, List.mem_cons, List.not_mem_nil, or_false] at hr
    rcases hr with rfl | rfl <;> kernel_rfl⟩
theorem fa117 : FdOk Go.Proofs.Try.prog fd117 ∧ E.ld 117 = none ∧ ∀ r ∈ fd117.loops, E.ld r.2.lid = some ⟨117, r.1, r.2⟩ :=
  ⟨FdOk.of Go.Proofs.Try.func117 (by kernel_rfl), by kernel_rfl, fun r hr => by
    simp only [fd117, List.mem_cons, List.not_mem_nil, or_false] at hr
    subst hr; kernel_rfl⟩
theorem fa118 : FdOk Go.Proofs.Try.prog fd118 ∧ E.ld 118 = none ∧ ∀ r ∈ fd118.loops, E.ld r.2.lid = some ⟨118, r.1, r.2⟩ :=
  ⟨FdOk.of Go.Proofs.Try.func118 (by kernel_rfl), by kernel_rfl, fun r hr => absurd hr (by simp [fd118])⟩
theorem fa10000 : FdOk Go.Proofs.Try.prog fd10000 ∧ E.ld 10000 = none ∧ ∀ r ∈ fd10000.loops, E.ld r.2.lid = some ⟨10000, r.1, r.2⟩ :=
  ⟨FdOk.of Go.Proofs.Try.func116 (by kernel_rfl), by kernel_rfl, fun r hr => by
    simp only [fd10000, List.mem_cons, List.not_mem_nil, or_false] at hr
    subst hr; kernel_rfl⟩
theorem fa120 : FdOk Go.Proofs.Try.prog fd120 ∧ E.ld 120 = none ∧ ∀ r ∈ fd120.loops, E.ld r.2.lid = some ⟨120, r.1, r.2⟩ :=
  ⟨FdOk.of Go.Proofs.Try.func120 (by kernel_rfl), by kernel_rfl, fun r hr => absurd hr (by simp [fd120])⟩
theorem fa65 : FdOk Go.Proofs.Try.prog fd65 ∧ E.ld 65 = none ∧ ∀ r ∈ fd65.loops, E.ld r.2.lid = some ⟨65, r.1, r.2⟩ :=
  ⟨FdOk.of Go.Proofs.Try.func65 (by kernel_rfl), by kernel_rfl, fun r hr => by
    simp only [fd65, List.mem_cons, List.not_mem_nil, or_false] at hr
    rcases hr with rfl | rfl <;> kernel_rfl⟩
theorem fa16 : FdOk Go.Proofs.Try.prog fd16 ∧ E.ld 16 = none ∧ ∀ r ∈ fd16.loops, E.ld r.2.lid = some ⟨16, r.1, r.2⟩ :=
  ⟨FdOk.of Go.Proofs.Try.func16 (by kernel_rfl), by kernel_rfl, fun r hr => absurd hr (by simp [fd16])⟩
theorem fa121 : FdOk Go.Proofs.Try.prog fd121 ∧ E.ld 121 = none ∧ ∀ r ∈ fd121.loops, E.ld r.2.lid = some ⟨121, r.1, r.2⟩ :=
  ⟨FdOk.of Go.Proofs.Try.func121 (by kernel_rfl), by kernel_rfl, fun r hr => by
    simp only [fd121, List.mem_cons, List.not_mem_nil, or_false] at hr
    subst hr; kernel_rfl⟩
theorem fa66 : FdOk Go.Proofs.Try.prog fd66 ∧ E.ld 66 = none ∧ ∀ r ∈ fd66.loops, E.ld r.2.lid = some ⟨66, r.1, r.2⟩ :=
  ⟨FdOk.of Go.Proofs.Try.func66 (by kernel_rfl), by kernel_rfl, fun r hr => absurd hr (by simp [fd66])⟩
theorem fa122 : FdOk Go.Proofs.Try.prog fd122 ∧ E.ld 122 = none ∧ ∀ r ∈ fd122.loops, E.ld r.2.lid = some ⟨122, r.1, r.2⟩ :=
  ⟨FdOk.of Go.Proofs.Try.func122 (by kernel_rfl), by kernel_rfl, fun r hr => by
    simp only [fd122, List.mem_cons, List.not_mem_nil, or_false] at hr
    subst hr; kernel_rfl⟩
theorem fa67 : FdOk Go.Proofs.Try.prog fd67 ∧ E.ld 67 = none ∧ ∀ r ∈ fd67.loops, E.ld r.2.lid = some ⟨67, r.1, r.2⟩ :=
  ⟨FdOk.of Go.Proofs.Try.func67 (by kernel_rfl), by kernel_rfl, fun r hr => absurd hr (by simp [fd67])⟩
theorem fa17 : FdOk Go.Proofs.Try.prog fd17 ∧ E.ld 17 = none ∧ ∀ r ∈ fd17.loops, E.ld r.2.lid = some ⟨17, r.1, r.2⟩ :=
  ⟨FdOk.of Go.Proofs.Try.func17 (by kernel_rfl), by kernel_rfl, fun r hr => absurd hr (by simp [fd17])⟩
theorem envOk : EnvOk Go.Proofs.Try.prog E := EnvOk.of (envTy_of rfl tyOk) (by kernel_rfl) rfl (by
  simp only [fdTab, List.forall_mem_cons]
  exact ⟨fa68, fa69, fa18, fa70, fa71, fa19, fa72, fa20, fa73, fa21, fa74, fa22, fa3, fa24, fa123, fa88, fa87, fa75, fa23, fa76, fa124, fa90, fa91, fa92, fa77, fa78, fa25, fa4, fa79, fa26, fa80, fa27, fa28, fa5, fa81, fa29, fa82, fa30, fa6, fa83, fa84, fa31, fa85, fa32, fa7, fa86, fa33, fa89, fa35, fa34, fa36, fa37, fa8, fa97, fa96, fa95, fa93, fa38, fa139, fa126, fa104, fa138, fa125, fa94, fa39, fa9, fa40, fa41, fa10, fa98, fa46, fa99, fa47, fa12, fa100, fa48, fa102, fa50, fa152, fa140, fa127, fa101, fa49, fa128, fa103, fa51, fa55, fa52, fa13, fa58, fa60, fa111, fa133, fa112, fa59, fa134, fa113, fa119, fa135, fa136, fa137, fa114, fa61, fa56, fa62, fa57, fa63, fa15, fa115, fa64, fa117, fa118, fa10000, fa120, fa65, fa16, fa121, fa66, fa122, fa67, fa17, fun q hq => absurd hq (by simp)⟩)
end Go.Ev.Ytadjhggdddbicaa
