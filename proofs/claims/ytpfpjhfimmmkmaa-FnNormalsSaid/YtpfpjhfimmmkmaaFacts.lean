/- The evaluator's tables are the program's. -/
import Derived.KernelRfl
import Derived.Test.YtpfpjhfimmmkmaaEnv
import Derived.Test.YtpfpjhfimmmkmaaV3
set_option linter.unusedVariables false
namespace Go.Ev.Ytpfpjhfimmmkmaa
open Go.Ev
theorem strOk : E.str.all (isStrB Go.Proofs.Try.prog) = true := by kernel_rfl
theorem tyOk : tyTab.all (fun q => tyOkB Go.Proofs.Try.prog q.2 q.1) = true := by kernel_rfl
theorem fa6 : FdOk Go.Proofs.Try.prog fd6 ∧ E.ld 6 = none ∧ (∀ r ∈ fd6.loops, E.ld r.2.lid = some ⟨6, r.1, r.2, false⟩) ∧ ∀ r ∈ fd6.joins, E.ld r.2.lid = some ⟨6, r.1, r.2, true⟩ :=
  ⟨FdOk.of Go.Proofs.Try.func6 (by kernel_rfl), by kernel_rfl, fun r hr => absurd hr (by simp [fd6]), fun r hr => absurd hr (by simp [fd6])⟩
theorem fa52 : FdOk Go.Proofs.Try.prog fd52 ∧ E.ld 52 = none ∧ (∀ r ∈ fd52.loops, E.ld r.2.lid = some ⟨52, r.1, r.2, false⟩) ∧ ∀ r ∈ fd52.joins, E.ld r.2.lid = some ⟨52, r.1, r.2, true⟩ :=
  ⟨FdOk.of Go.Proofs.Try.func52 (by kernel_rfl), by kernel_rfl, fun r hr => by
    simp only [fd52, List.mem_cons, List.not_mem_nil, or_false] at hr
    subst hr; kernel_rfl, fun r hr => absurd hr (by simp [fd52])⟩
theorem fa75 : FdOk Go.Proofs.Try.prog fd75 ∧ E.ld 75 = none ∧ (∀ r ∈ fd75.loops, E.ld r.2.lid = some ⟨75, r.1, r.2, false⟩) ∧ ∀ r ∈ fd75.joins, E.ld r.2.lid = some ⟨75, r.1, r.2, true⟩ :=
  ⟨FdOk.of Go.Proofs.Try.func75 (by kernel_rfl), by kernel_rfl, fun r hr => absurd hr (by simp [fd75]), fun r hr => absurd hr (by simp [fd75])⟩
theorem fa88 : FdOk Go.Proofs.Try.prog fd88 ∧ E.ld 88 = none ∧ (∀ r ∈ fd88.loops, E.ld r.2.lid = some ⟨88, r.1, r.2, false⟩) ∧ ∀ r ∈ fd88.joins, E.ld r.2.lid = some ⟨88, r.1, r.2, true⟩ :=
  ⟨FdOk.of Go.Proofs.Try.func88 (by kernel_rfl), by kernel_rfl, fun r hr => absurd hr (by simp [fd88]), fun r hr => absurd hr (by simp [fd88])⟩
theorem fa76 : FdOk Go.Proofs.Try.prog fd76 ∧ E.ld 76 = none ∧ (∀ r ∈ fd76.loops, E.ld r.2.lid = some ⟨76, r.1, r.2, false⟩) ∧ ∀ r ∈ fd76.joins, E.ld r.2.lid = some ⟨76, r.1, r.2, true⟩ :=
  ⟨FdOk.of Go.Proofs.Try.func76 (by kernel_rfl), by kernel_rfl, fun r hr => by
    simp only [fd76, List.mem_cons, List.not_mem_nil, or_false] at hr
    subst hr; kernel_rfl, fun r hr => absurd hr (by simp [fd76])⟩
theorem fa127 : FdOk Go.Proofs.Try.prog fd127 ∧ E.ld 127 = none ∧ (∀ r ∈ fd127.loops, E.ld r.2.lid = some ⟨127, r.1, r.2, false⟩) ∧ ∀ r ∈ fd127.joins, E.ld r.2.lid = some ⟨127, r.1, r.2, true⟩ :=
  ⟨FdOk.of Go.Proofs.Try.func127 (by kernel_rfl), by kernel_rfl, fun r hr => absurd hr (by simp [fd127]), fun r hr => absurd hr (by simp [fd127])⟩
theorem fa101 : FdOk Go.Proofs.Try.prog fd101 ∧ E.ld 101 = none ∧ (∀ r ∈ fd101.loops, E.ld r.2.lid = some ⟨101, r.1, r.2, false⟩) ∧ ∀ r ∈ fd101.joins, E.ld r.2.lid = some ⟨101, r.1, r.2, true⟩ :=
  ⟨FdOk.of Go.Proofs.Try.func101 (by kernel_rfl), by kernel_rfl, fun r hr => absurd hr (by simp [fd101]), fun r hr => absurd hr (by simp [fd101])⟩
theorem fa102 : FdOk Go.Proofs.Try.prog fd102 ∧ E.ld 102 = none ∧ (∀ r ∈ fd102.loops, E.ld r.2.lid = some ⟨102, r.1, r.2, false⟩) ∧ ∀ r ∈ fd102.joins, E.ld r.2.lid = some ⟨102, r.1, r.2, true⟩ :=
  ⟨FdOk.of Go.Proofs.Try.func102 (by kernel_rfl), by kernel_rfl, fun r hr => absurd hr (by simp [fd102]), fun r hr => absurd hr (by simp [fd102])⟩
theorem fa51 : FdOk Go.Proofs.Try.prog fd51 ∧ E.ld 51 = none ∧ (∀ r ∈ fd51.loops, E.ld r.2.lid = some ⟨51, r.1, r.2, false⟩) ∧ ∀ r ∈ fd51.joins, E.ld r.2.lid = some ⟨51, r.1, r.2, true⟩ :=
  ⟨FdOk.of Go.Proofs.Try.func51 (by kernel_rfl), by kernel_rfl, fun r hr => absurd hr (by simp [fd51]), fun r hr => absurd hr (by simp [fd51])⟩
theorem fa7 : FdOk Go.Proofs.Try.prog fd7 ∧ E.ld 7 = none ∧ (∀ r ∈ fd7.loops, E.ld r.2.lid = some ⟨7, r.1, r.2, false⟩) ∧ ∀ r ∈ fd7.joins, E.ld r.2.lid = some ⟨7, r.1, r.2, true⟩ :=
  ⟨FdOk.of Go.Proofs.Try.func7 (by kernel_rfl), by kernel_rfl, fun r hr => absurd hr (by simp [fd7]), fun r hr => absurd hr (by simp [fd7])⟩
theorem fa71 : FdOk Go.Proofs.Try.prog fd71 ∧ E.ld 71 = none ∧ (∀ r ∈ fd71.loops, E.ld r.2.lid = some ⟨71, r.1, r.2, false⟩) ∧ ∀ r ∈ fd71.joins, E.ld r.2.lid = some ⟨71, r.1, r.2, true⟩ :=
  ⟨FdOk.of Go.Proofs.Try.func71 (by kernel_rfl), by kernel_rfl, fun r hr => absurd hr (by simp [fd71]), fun r hr => absurd hr (by simp [fd71])⟩
theorem fa70 : FdOk Go.Proofs.Try.prog fd70 ∧ E.ld 70 = none ∧ (∀ r ∈ fd70.loops, E.ld r.2.lid = some ⟨70, r.1, r.2, false⟩) ∧ ∀ r ∈ fd70.joins, E.ld r.2.lid = some ⟨70, r.1, r.2, true⟩ :=
  ⟨FdOk.of Go.Proofs.Try.func70 (by kernel_rfl), by kernel_rfl, fun r hr => absurd hr (by simp [fd70]), fun r hr => absurd hr (by simp [fd70])⟩
theorem fa103 : FdOk Go.Proofs.Try.prog fd103 ∧ E.ld 103 = none ∧ (∀ r ∈ fd103.loops, E.ld r.2.lid = some ⟨103, r.1, r.2, false⟩) ∧ ∀ r ∈ fd103.joins, E.ld r.2.lid = some ⟨103, r.1, r.2, true⟩ :=
  ⟨FdOk.of Go.Proofs.Try.func103 (by kernel_rfl), by kernel_rfl, fun r hr => absurd hr (by simp [fd103]), fun r hr => absurd hr (by simp [fd103])⟩
theorem fa53 : FdOk Go.Proofs.Try.prog fd53 ∧ E.ld 53 = none ∧ (∀ r ∈ fd53.loops, E.ld r.2.lid = some ⟨53, r.1, r.2, false⟩) ∧ ∀ r ∈ fd53.joins, E.ld r.2.lid = some ⟨53, r.1, r.2, true⟩ :=
  ⟨FdOk.of Go.Proofs.Try.func53 (by kernel_rfl), by kernel_rfl, fun r hr => by
    simp only [fd53, List.mem_cons, List.not_mem_nil, or_false] at hr
    subst hr; kernel_rfl, fun r hr => absurd hr (by simp [fd53])⟩
theorem fa73 : FdOk Go.Proofs.Try.prog fd73 ∧ E.ld 73 = none ∧ (∀ r ∈ fd73.loops, E.ld r.2.lid = some ⟨73, r.1, r.2, false⟩) ∧ ∀ r ∈ fd73.joins, E.ld r.2.lid = some ⟨73, r.1, r.2, true⟩ :=
  ⟨FdOk.of Go.Proofs.Try.func73 (by kernel_rfl), by kernel_rfl, fun r hr => by
    simp only [fd73, List.mem_cons, List.not_mem_nil, or_false] at hr
    subst hr; kernel_rfl, fun r hr => absurd hr (by simp [fd73])⟩
theorem fa104 : FdOk Go.Proofs.Try.prog fd104 ∧ E.ld 104 = none ∧ (∀ r ∈ fd104.loops, E.ld r.2.lid = some ⟨104, r.1, r.2, false⟩) ∧ ∀ r ∈ fd104.joins, E.ld r.2.lid = some ⟨104, r.1, r.2, true⟩ :=
  ⟨FdOk.of Go.Proofs.Try.func104 (by kernel_rfl), by kernel_rfl, fun r hr => absurd hr (by simp [fd104]), fun r hr => absurd hr (by simp [fd104])⟩
theorem fa60 : FdOk Go.Proofs.Try.prog fd60 ∧ E.ld 60 = none ∧ (∀ r ∈ fd60.loops, E.ld r.2.lid = some ⟨60, r.1, r.2, false⟩) ∧ ∀ r ∈ fd60.joins, E.ld r.2.lid = some ⟨60, r.1, r.2, true⟩ :=
  ⟨FdOk.of Go.Proofs.Try.func60 (by kernel_rfl), by kernel_rfl, fun r hr => by
    simp only [fd60, List.mem_cons, List.not_mem_nil, or_false] at hr
    subst hr; kernel_rfl, fun r hr => absurd hr (by simp [fd60])⟩
theorem fa64 : FdOk Go.Proofs.Try.prog fd64 ∧ E.ld 64 = none ∧ (∀ r ∈ fd64.loops, E.ld r.2.lid = some ⟨64, r.1, r.2, false⟩) ∧ ∀ r ∈ fd64.joins, E.ld r.2.lid = some ⟨64, r.1, r.2, true⟩ :=
  ⟨FdOk.of Go.Proofs.Try.func64 (by kernel_rfl), by kernel_rfl, fun r hr => by
    simp only [fd64, List.mem_cons, List.not_mem_nil, or_false] at hr
    subst hr; kernel_rfl, fun r hr => absurd hr (by simp [fd64])⟩
theorem fa123 : FdOk Go.Proofs.Try.prog fd123 ∧ E.ld 123 = none ∧ (∀ r ∈ fd123.loops, E.ld r.2.lid = some ⟨123, r.1, r.2, false⟩) ∧ ∀ r ∈ fd123.joins, E.ld r.2.lid = some ⟨123, r.1, r.2, true⟩ :=
  ⟨FdOk.of Go.Proofs.Try.func123 (by kernel_rfl), by kernel_rfl, fun r hr => by
    simp only [fd123, List.mem_cons, List.not_mem_nil, or_false] at hr
    subst hr; kernel_rfl, fun r hr => absurd hr (by simp [fd123])⟩
theorem fa122 : FdOk Go.Proofs.Try.prog fd122 ∧ E.ld 122 = none ∧ (∀ r ∈ fd122.loops, E.ld r.2.lid = some ⟨122, r.1, r.2, false⟩) ∧ ∀ r ∈ fd122.joins, E.ld r.2.lid = some ⟨122, r.1, r.2, true⟩ :=
  ⟨FdOk.of Go.Proofs.Try.func122 (by kernel_rfl), by kernel_rfl, fun r hr => absurd hr (by simp [fd122]), fun r hr => absurd hr (by simp [fd122])⟩
theorem fa118 : FdOk Go.Proofs.Try.prog fd118 ∧ E.ld 118 = none ∧ (∀ r ∈ fd118.loops, E.ld r.2.lid = some ⟨118, r.1, r.2, false⟩) ∧ ∀ r ∈ fd118.joins, E.ld r.2.lid = some ⟨118, r.1, r.2, true⟩ :=
  ⟨FdOk.of Go.Proofs.Try.func118 (by kernel_rfl), by kernel_rfl, fun r hr => by
    simp only [fd118, List.mem_cons, List.not_mem_nil, or_false] at hr
    rcases hr with rfl | rfl <;> kernel_rfl, fun r hr => absurd hr (by simp [fd118])⟩
theorem fa94 : FdOk Go.Proofs.Try.prog fd94 ∧ E.ld 94 = none ∧ (∀ r ∈ fd94.loops, E.ld r.2.lid = some ⟨94, r.1, r.2, false⟩) ∧ ∀ r ∈ fd94.joins, E.ld r.2.lid = some ⟨94, r.1, r.2, true⟩ :=
  ⟨FdOk.of Go.Proofs.Try.func94 (by kernel_rfl), by kernel_rfl, fun r hr => by
    simp only [fd94, List.mem_cons, List.not_mem_nil, or_false] at hr
    rcases hr with rfl | rfl <;> kernel_rfl, fun r hr => absurd hr (by simp [fd94])⟩
theorem fa96 : FdOk Go.Proofs.Try.prog fd96 ∧ E.ld 96 = none ∧ (∀ r ∈ fd96.loops, E.ld r.2.lid = some ⟨96, r.1, r.2, false⟩) ∧ ∀ r ∈ fd96.joins, E.ld r.2.lid = some ⟨96, r.1, r.2, true⟩ :=
  ⟨FdOk.of Go.Proofs.Try.func96 (by kernel_rfl), by kernel_rfl, fun r hr => by
    simp only [fd96, List.mem_cons, List.not_mem_nil, or_false] at hr
    rcases hr with rfl | rfl | rfl <;> kernel_rfl, fun r hr => absurd hr (by simp [fd96])⟩
theorem fa121 : FdOk Go.Proofs.Try.prog fd121 ∧ E.ld 121 = none ∧ (∀ r ∈ fd121.loops, E.ld r.2.lid = some ⟨121, r.1, r.2, false⟩) ∧ ∀ r ∈ fd121.joins, E.ld r.2.lid = some ⟨121, r.1, r.2, true⟩ :=
  ⟨FdOk.of Go.Proofs.Try.func121 (by kernel_rfl), by kernel_rfl, fun r hr => absurd hr (by simp [fd121]), fun r hr => absurd hr (by simp [fd121])⟩
theorem fa93 : FdOk Go.Proofs.Try.prog fd93 ∧ E.ld 93 = none ∧ (∀ r ∈ fd93.loops, E.ld r.2.lid = some ⟨93, r.1, r.2, false⟩) ∧ ∀ r ∈ fd93.joins, E.ld r.2.lid = some ⟨93, r.1, r.2, true⟩ :=
  ⟨FdOk.of Go.Proofs.Try.func93 (by kernel_rfl), by kernel_rfl, fun r hr => by
    simp only [fd93, List.mem_cons, List.not_mem_nil, or_false] at hr
    subst hr; kernel_rfl, fun r hr => absurd hr (by simp [fd93])⟩
theorem fa128 : FdOk Go.Proofs.Try.prog fd128 ∧ E.ld 128 = none ∧ (∀ r ∈ fd128.loops, E.ld r.2.lid = some ⟨128, r.1, r.2, false⟩) ∧ ∀ r ∈ fd128.joins, E.ld r.2.lid = some ⟨128, r.1, r.2, true⟩ :=
  ⟨FdOk.of Go.Proofs.Try.func128 (by kernel_rfl), by kernel_rfl, fun r hr => absurd hr (by simp [fd128]), fun r hr => absurd hr (by simp [fd128])⟩
theorem fa105 : FdOk Go.Proofs.Try.prog fd105 ∧ E.ld 105 = none ∧ (∀ r ∈ fd105.loops, E.ld r.2.lid = some ⟨105, r.1, r.2, false⟩) ∧ ∀ r ∈ fd105.joins, E.ld r.2.lid = some ⟨105, r.1, r.2, true⟩ :=
  ⟨FdOk.of Go.Proofs.Try.func105 (by kernel_rfl), by kernel_rfl, fun r hr => absurd hr (by simp [fd105]), fun r hr => absurd hr (by simp [fd105])⟩
theorem fa55 : FdOk Go.Proofs.Try.prog fd55 ∧ E.ld 55 = none ∧ (∀ r ∈ fd55.loops, E.ld r.2.lid = some ⟨55, r.1, r.2, false⟩) ∧ ∀ r ∈ fd55.joins, E.ld r.2.lid = some ⟨55, r.1, r.2, true⟩ :=
  ⟨FdOk.of Go.Proofs.Try.func55 (by kernel_rfl), by kernel_rfl, fun r hr => by
    simp only [fd55, List.mem_cons, List.not_mem_nil, or_false] at hr
    subst hr; kernel_rfl, fun r hr => absurd hr (by simp [fd55])⟩
theorem fa54 : FdOk Go.Proofs.Try.prog fd54 ∧ E.ld 54 = none ∧ (∀ r ∈ fd54.loops, E.ld r.2.lid = some ⟨54, r.1, r.2, false⟩) ∧ ∀ r ∈ fd54.joins, E.ld r.2.lid = some ⟨54, r.1, r.2, true⟩ :=
  ⟨FdOk.of Go.Proofs.Try.func54 (by kernel_rfl), by kernel_rfl, fun r hr => absurd hr (by simp [fd54]), fun r hr => absurd hr (by simp [fd54])⟩
theorem fa8 : FdOk Go.Proofs.Try.prog fd8 ∧ E.ld 8 = none ∧ (∀ r ∈ fd8.loops, E.ld r.2.lid = some ⟨8, r.1, r.2, false⟩) ∧ ∀ r ∈ fd8.joins, E.ld r.2.lid = some ⟨8, r.1, r.2, true⟩ :=
  ⟨FdOk.of Go.Proofs.Try.func8 (by kernel_rfl), by kernel_rfl, fun r hr => absurd hr (by simp [fd8]), fun r hr => absurd hr (by simp [fd8])⟩
theorem fa89 : FdOk Go.Proofs.Try.prog fd89 ∧ E.ld 89 = none ∧ (∀ r ∈ fd89.loops, E.ld r.2.lid = some ⟨89, r.1, r.2, false⟩) ∧ ∀ r ∈ fd89.joins, E.ld r.2.lid = some ⟨89, r.1, r.2, true⟩ :=
  ⟨FdOk.of Go.Proofs.Try.func89 (by kernel_rfl), by kernel_rfl, fun r hr => absurd hr (by simp [fd89]), fun r hr => absurd hr (by simp [fd89])⟩
theorem fa56 : FdOk Go.Proofs.Try.prog fd56 ∧ E.ld 56 = none ∧ (∀ r ∈ fd56.loops, E.ld r.2.lid = some ⟨56, r.1, r.2, false⟩) ∧ ∀ r ∈ fd56.joins, E.ld r.2.lid = some ⟨56, r.1, r.2, true⟩ :=
  ⟨FdOk.of Go.Proofs.Try.func56 (by kernel_rfl), by kernel_rfl, fun r hr => by
    simp only [fd56, List.mem_cons, List.not_mem_nil, or_false] at hr
    subst hr; kernel_rfl, fun r hr => absurd hr (by simp [fd56])⟩
theorem fa109 : FdOk Go.Proofs.Try.prog fd109 ∧ E.ld 109 = none ∧ (∀ r ∈ fd109.loops, E.ld r.2.lid = some ⟨109, r.1, r.2, false⟩) ∧ ∀ r ∈ fd109.joins, E.ld r.2.lid = some ⟨109, r.1, r.2, true⟩ :=
  ⟨FdOk.of Go.Proofs.Try.func109 (by kernel_rfl), by kernel_rfl, fun r hr => by
    simp only [fd109, List.mem_cons, List.not_mem_nil, or_false] at hr
    subst hr; kernel_rfl, fun r hr => absurd hr (by simp [fd109])⟩
theorem fa107 : FdOk Go.Proofs.Try.prog fd107 ∧ E.ld 107 = none ∧ (∀ r ∈ fd107.loops, E.ld r.2.lid = some ⟨107, r.1, r.2, false⟩) ∧ ∀ r ∈ fd107.joins, E.ld r.2.lid = some ⟨107, r.1, r.2, true⟩ :=
  ⟨FdOk.of Go.Proofs.Try.func107 (by kernel_rfl), by kernel_rfl, fun r hr => absurd hr (by simp [fd107]), fun r hr => absurd hr (by simp [fd107])⟩
theorem fa110 : FdOk Go.Proofs.Try.prog fd110 ∧ E.ld 110 = none ∧ (∀ r ∈ fd110.loops, E.ld r.2.lid = some ⟨110, r.1, r.2, false⟩) ∧ ∀ r ∈ fd110.joins, E.ld r.2.lid = some ⟨110, r.1, r.2, true⟩ :=
  ⟨FdOk.of Go.Proofs.Try.func110 (by kernel_rfl), by kernel_rfl, fun r hr => by
    simp only [fd110, List.mem_cons, List.not_mem_nil, or_false] at hr
    subst hr; kernel_rfl, fun r hr => absurd hr (by simp [fd110])⟩
theorem fa131 : FdOk Go.Proofs.Try.prog fd131 ∧ E.ld 131 = none ∧ (∀ r ∈ fd131.loops, E.ld r.2.lid = some ⟨131, r.1, r.2, false⟩) ∧ ∀ r ∈ fd131.joins, E.ld r.2.lid = some ⟨131, r.1, r.2, true⟩ :=
  ⟨FdOk.of Go.Proofs.Try.func131 (by kernel_rfl), by kernel_rfl, fun r hr => by
    simp only [fd131, List.mem_cons, List.not_mem_nil, or_false] at hr
    subst hr; kernel_rfl, fun r hr => absurd hr (by simp [fd131])⟩
theorem fa133 : FdOk Go.Proofs.Try.prog fd133 ∧ E.ld 133 = none ∧ (∀ r ∈ fd133.loops, E.ld r.2.lid = some ⟨133, r.1, r.2, false⟩) ∧ ∀ r ∈ fd133.joins, E.ld r.2.lid = some ⟨133, r.1, r.2, true⟩ :=
  ⟨FdOk.of Go.Proofs.Try.func133 (by kernel_rfl), by kernel_rfl, fun r hr => absurd hr (by simp [fd133]), fun r hr => absurd hr (by simp [fd133])⟩
theorem fa120 : FdOk Go.Proofs.Try.prog fd120 ∧ E.ld 120 = none ∧ (∀ r ∈ fd120.loops, E.ld r.2.lid = some ⟨120, r.1, r.2, false⟩) ∧ ∀ r ∈ fd120.joins, E.ld r.2.lid = some ⟨120, r.1, r.2, true⟩ :=
  ⟨FdOk.of Go.Proofs.Try.func120 (by kernel_rfl), by kernel_rfl, fun r hr => by
    simp only [fd120, List.mem_cons, List.not_mem_nil, or_false] at hr
    subst hr; kernel_rfl, fun r hr => absurd hr (by simp [fd120])⟩
theorem fa61 : FdOk Go.Proofs.Try.prog fd61 ∧ E.ld 61 = none ∧ (∀ r ∈ fd61.loops, E.ld r.2.lid = some ⟨61, r.1, r.2, false⟩) ∧ ∀ r ∈ fd61.joins, E.ld r.2.lid = some ⟨61, r.1, r.2, true⟩ :=
  ⟨FdOk.of Go.Proofs.Try.func61 (by kernel_rfl), by kernel_rfl, fun r hr => by
    simp only [fd61, List.mem_cons, List.not_mem_nil, or_false] at hr
    subst hr; kernel_rfl, fun r hr => absurd hr (by simp [fd61])⟩
theorem fa129 : FdOk Go.Proofs.Try.prog fd129 ∧ E.ld 129 = none ∧ (∀ r ∈ fd129.loops, E.ld r.2.lid = some ⟨129, r.1, r.2, false⟩) ∧ ∀ r ∈ fd129.joins, E.ld r.2.lid = some ⟨129, r.1, r.2, true⟩ :=
  ⟨FdOk.of Go.Proofs.Try.func129 (by kernel_rfl), by kernel_rfl, fun r hr => absurd hr (by simp [fd129]), fun r hr => absurd hr (by simp [fd129])⟩
theorem fa134 : FdOk Go.Proofs.Try.prog fd134 ∧ E.ld 134 = none ∧ (∀ r ∈ fd134.loops, E.ld r.2.lid = some ⟨134, r.1, r.2, false⟩) ∧ ∀ r ∈ fd134.joins, E.ld r.2.lid = some ⟨134, r.1, r.2, true⟩ :=
  ⟨FdOk.of Go.Proofs.Try.func134 (by kernel_rfl), by kernel_rfl, fun r hr => absurd hr (by simp [fd134]), fun r hr => absurd hr (by simp [fd134])⟩
theorem fa124 : FdOk Go.Proofs.Try.prog fd124 ∧ E.ld 124 = none ∧ (∀ r ∈ fd124.loops, E.ld r.2.lid = some ⟨124, r.1, r.2, false⟩) ∧ ∀ r ∈ fd124.joins, E.ld r.2.lid = some ⟨124, r.1, r.2, true⟩ :=
  ⟨FdOk.of Go.Proofs.Try.func124 (by kernel_rfl), by kernel_rfl, fun r hr => by
    simp only [fd124, List.mem_cons, List.not_mem_nil, or_false] at hr
    subst hr; kernel_rfl, fun r hr => absurd hr (by simp [fd124])⟩
theorem fa132 : FdOk Go.Proofs.Try.prog fd132 ∧ E.ld 132 = none ∧ (∀ r ∈ fd132.loops, E.ld r.2.lid = some ⟨132, r.1, r.2, false⟩) ∧ ∀ r ∈ fd132.joins, E.ld r.2.lid = some ⟨132, r.1, r.2, true⟩ :=
  ⟨FdOk.of Go.Proofs.Try.func132 (by kernel_rfl), by kernel_rfl, fun r hr => by
    simp only [fd132, List.mem_cons, List.not_mem_nil, or_false] at hr
    rcases hr with rfl | rfl <;> kernel_rfl, fun r hr => absurd hr (by simp [fd132])⟩
theorem fa119 : FdOk Go.Proofs.Try.prog fd119 ∧ E.ld 119 = none ∧ (∀ r ∈ fd119.loops, E.ld r.2.lid = some ⟨119, r.1, r.2, false⟩) ∧ ∀ r ∈ fd119.joins, E.ld r.2.lid = some ⟨119, r.1, r.2, true⟩ :=
  ⟨FdOk.of Go.Proofs.Try.func119 (by kernel_rfl), by kernel_rfl, fun r hr => by
    simp only [fd119, List.mem_cons, List.not_mem_nil, or_false] at hr
    rcases hr with rfl | rfl <;> kernel_rfl, fun r hr => absurd hr (by simp [fd119])⟩
theorem fa106 : FdOk Go.Proofs.Try.prog fd106 ∧ E.ld 106 = none ∧ (∀ r ∈ fd106.loops, E.ld r.2.lid = some ⟨106, r.1, r.2, false⟩) ∧ ∀ r ∈ fd106.joins, E.ld r.2.lid = some ⟨106, r.1, r.2, true⟩ :=
  ⟨FdOk.of Go.Proofs.Try.func106 (by kernel_rfl), by kernel_rfl, fun r hr => absurd hr (by simp [fd106]), fun r hr => absurd hr (by simp [fd106])⟩
theorem fa58 : FdOk Go.Proofs.Try.prog fd58 ∧ E.ld 58 = none ∧ (∀ r ∈ fd58.loops, E.ld r.2.lid = some ⟨58, r.1, r.2, false⟩) ∧ ∀ r ∈ fd58.joins, E.ld r.2.lid = some ⟨58, r.1, r.2, true⟩ :=
  ⟨FdOk.of Go.Proofs.Try.func58 (by kernel_rfl), by kernel_rfl, fun r hr => by
    simp only [fd58, List.mem_cons, List.not_mem_nil, or_false] at hr
    subst hr; kernel_rfl, fun r hr => absurd hr (by simp [fd58])⟩
theorem fa57 : FdOk Go.Proofs.Try.prog fd57 ∧ E.ld 57 = none ∧ (∀ r ∈ fd57.loops, E.ld r.2.lid = some ⟨57, r.1, r.2, false⟩) ∧ ∀ r ∈ fd57.joins, E.ld r.2.lid = some ⟨57, r.1, r.2, true⟩ :=
  ⟨FdOk.of Go.Proofs.Try.func57 (by kernel_rfl), by kernel_rfl, fun r hr => absurd hr (by simp [fd57]), fun r hr => absurd hr (by simp [fd57])⟩
theorem fa9 : FdOk Go.Proofs.Try.prog fd9 ∧ E.ld 9 = none ∧ (∀ r ∈ fd9.loops, E.ld r.2.lid = some ⟨9, r.1, r.2, false⟩) ∧ ∀ r ∈ fd9.joins, E.ld r.2.lid = some ⟨9, r.1, r.2, true⟩ :=
  ⟨FdOk.of Go.Proofs.Try.func9 (by kernel_rfl), by kernel_rfl, fun r hr => absurd hr (by simp [fd9]), fun r hr => absurd hr (by simp [fd9])⟩
theorem fa10 : FdOk Go.Proofs.Try.prog fd10 ∧ E.ld 10 = none ∧ (∀ r ∈ fd10.loops, E.ld r.2.lid = some ⟨10, r.1, r.2, false⟩) ∧ ∀ r ∈ fd10.joins, E.ld r.2.lid = some ⟨10, r.1, r.2, true⟩ :=
  ⟨FdOk.of Go.Proofs.Try.func10 (by kernel_rfl), by kernel_rfl, fun r hr => by
    simp only [fd10, List.mem_cons, List.not_mem_nil, or_false] at hr
    subst hr; kernel_rfl, fun r hr => absurd hr (by simp [fd10])⟩
theorem fa11 : FdOk Go.Proofs.Try.prog fd11 ∧ E.ld 11 = none ∧ (∀ r ∈ fd11.loops, E.ld r.2.lid = some ⟨11, r.1, r.2, false⟩) ∧ ∀ r ∈ fd11.joins, E.ld r.2.lid = some ⟨11, r.1, r.2, true⟩ :=
  ⟨FdOk.of Go.Proofs.Try.func11 (by kernel_rfl), by kernel_rfl, fun r hr => absurd hr (by simp [fd11]), fun r hr => absurd hr (by simp [fd11])⟩
theorem fa59 : FdOk Go.Proofs.Try.prog fd59 ∧ E.ld 59 = none ∧ (∀ r ∈ fd59.loops, E.ld r.2.lid = some ⟨59, r.1, r.2, false⟩) ∧ ∀ r ∈ fd59.joins, E.ld r.2.lid = some ⟨59, r.1, r.2, true⟩ :=
  ⟨FdOk.of Go.Proofs.Try.func59 (by kernel_rfl), by kernel_rfl, fun r hr => by
    simp only [fd59, List.mem_cons, List.not_mem_nil, or_false] at hr
    subst hr; kernel_rfl, fun r hr => absurd hr (by simp [fd59])⟩
theorem fa12 : FdOk Go.Proofs.Try.prog fd12 ∧ E.ld 12 = none ∧ (∀ r ∈ fd12.loops, E.ld r.2.lid = some ⟨12, r.1, r.2, false⟩) ∧ ∀ r ∈ fd12.joins, E.ld r.2.lid = some ⟨12, r.1, r.2, true⟩ :=
  ⟨FdOk.of Go.Proofs.Try.func12 (by kernel_rfl), by kernel_rfl, fun r hr => by
    simp only [fd12, List.mem_cons, List.not_mem_nil, or_false] at hr
    subst hr; kernel_rfl, fun r hr => absurd hr (by simp [fd12])⟩
theorem fa13 : FdOk Go.Proofs.Try.prog fd13 ∧ E.ld 13 = none ∧ (∀ r ∈ fd13.loops, E.ld r.2.lid = some ⟨13, r.1, r.2, false⟩) ∧ ∀ r ∈ fd13.joins, E.ld r.2.lid = some ⟨13, r.1, r.2, true⟩ :=
  ⟨FdOk.of Go.Proofs.Try.func13 (by kernel_rfl), by kernel_rfl, fun r hr => by
    simp only [fd13, List.mem_cons, List.not_mem_nil, or_false] at hr
    rcases hr with rfl | rfl <;> kernel_rfl, fun r hr => absurd hr (by simp [fd13])⟩
theorem fa108 : FdOk Go.Proofs.Try.prog fd108 ∧ E.ld 108 = none ∧ (∀ r ∈ fd108.loops, E.ld r.2.lid = some ⟨108, r.1, r.2, false⟩) ∧ ∀ r ∈ fd108.joins, E.ld r.2.lid = some ⟨108, r.1, r.2, true⟩ :=
  ⟨FdOk.of Go.Proofs.Try.func108 (by kernel_rfl), by kernel_rfl, fun r hr => absurd hr (by simp [fd108]), fun r hr => absurd hr (by simp [fd108])⟩
theorem fa62 : FdOk Go.Proofs.Try.prog fd62 ∧ E.ld 62 = none ∧ (∀ r ∈ fd62.loops, E.ld r.2.lid = some ⟨62, r.1, r.2, false⟩) ∧ ∀ r ∈ fd62.joins, E.ld r.2.lid = some ⟨62, r.1, r.2, true⟩ :=
  ⟨FdOk.of Go.Proofs.Try.func62 (by kernel_rfl), by kernel_rfl, fun r hr => absurd hr (by simp [fd62]), fun r hr => absurd hr (by simp [fd62])⟩
theorem fa14 : FdOk Go.Proofs.Try.prog fd14 ∧ E.ld 14 = none ∧ (∀ r ∈ fd14.loops, E.ld r.2.lid = some ⟨14, r.1, r.2, false⟩) ∧ ∀ r ∈ fd14.joins, E.ld r.2.lid = some ⟨14, r.1, r.2, true⟩ :=
  ⟨FdOk.of Go.Proofs.Try.func14 (by kernel_rfl), by kernel_rfl, fun r hr => absurd hr (by simp [fd14]), fun r hr => absurd hr (by simp [fd14])⟩
theorem fa72 : FdOk Go.Proofs.Try.prog fd72 ∧ E.ld 72 = none ∧ (∀ r ∈ fd72.loops, E.ld r.2.lid = some ⟨72, r.1, r.2, false⟩) ∧ ∀ r ∈ fd72.joins, E.ld r.2.lid = some ⟨72, r.1, r.2, true⟩ :=
  ⟨FdOk.of Go.Proofs.Try.func72 (by kernel_rfl), by kernel_rfl, fun r hr => by
    simp only [fd72, List.mem_cons, List.not_mem_nil, or_false] at hr
    subst hr; kernel_rfl, fun r hr => absurd hr (by simp [fd72])⟩
theorem fa115 : FdOk Go.Proofs.Try.prog fd115 ∧ E.ld 115 = none ∧ (∀ r ∈ fd115.loops, E.ld r.2.lid = some ⟨115, r.1, r.2, false⟩) ∧ ∀ r ∈ fd115.joins, E.ld r.2.lid = some ⟨115, r.1, r.2, true⟩ :=
  ⟨FdOk.of Go.Proofs.Try.func115 (by kernel_rfl), by kernel_rfl, fun r hr => absurd hr (by simp [fd115]), fun r hr => absurd hr (by simp [fd115])⟩
theorem fa111 : FdOk Go.Proofs.Try.prog fd111 ∧ E.ld 111 = none ∧ (∀ r ∈ fd111.loops, E.ld r.2.lid = some ⟨111, r.1, r.2, false⟩) ∧ ∀ r ∈ fd111.joins, E.ld r.2.lid = some ⟨111, r.1, r.2, true⟩ :=
  ⟨FdOk.of Go.Proofs.Try.func111 (by kernel_rfl), by kernel_rfl, fun r hr => by
    simp only [fd111, List.mem_cons, List.not_mem_nil, or_false] at hr
    subst hr; kernel_rfl, fun r hr => absurd hr (by simp [fd111])⟩
theorem fa74 : FdOk Go.Proofs.Try.prog fd74 ∧ E.ld 74 = none ∧ (∀ r ∈ fd74.loops, E.ld r.2.lid = some ⟨74, r.1, r.2, false⟩) ∧ ∀ r ∈ fd74.joins, E.ld r.2.lid = some ⟨74, r.1, r.2, true⟩ :=
  ⟨FdOk.of Go.Proofs.Try.func74 (by kernel_rfl), by kernel_rfl, fun r hr => by
    simp only [fd74, List.mem_cons, List.not_mem_nil, or_false] at hr
    subst hr; kernel_rfl, fun r hr => absurd hr (by simp [fd74])⟩
theorem fa18 : FdOk Go.Proofs.Try.prog fd18 ∧ E.ld 18 = none ∧ (∀ r ∈ fd18.loops, E.ld r.2.lid = some ⟨18, r.1, r.2, false⟩) ∧ ∀ r ∈ fd18.joins, E.ld r.2.lid = some ⟨18, r.1, r.2, true⟩ :=
  ⟨FdOk.of Go.Proofs.Try.func18 (by kernel_rfl), by kernel_rfl, fun r hr => by
    simp only [fd18, List.mem_cons, List.not_mem_nil, or_false] at hr
    subst hr; kernel_rfl, fun r hr => absurd hr (by simp [fd18])⟩
theorem fa63 : FdOk Go.Proofs.Try.prog fd63 ∧ E.ld 63 = none ∧ (∀ r ∈ fd63.loops, E.ld r.2.lid = some ⟨63, r.1, r.2, false⟩) ∧ ∀ r ∈ fd63.joins, E.ld r.2.lid = some ⟨63, r.1, r.2, true⟩ :=
  ⟨FdOk.of Go.Proofs.Try.func63 (by kernel_rfl), by kernel_rfl, fun r hr => by
    simp only [fd63, List.mem_cons, List.not_mem_nil, or_false] at hr
    subst hr; kernel_rfl, fun r hr => absurd hr (by simp [fd63])⟩
theorem fa66 : FdOk Go.Proofs.Try.prog fd66 ∧ E.ld 66 = none ∧ (∀ r ∈ fd66.loops, E.ld r.2.lid = some ⟨66, r.1, r.2, false⟩) ∧ ∀ r ∈ fd66.joins, E.ld r.2.lid = some ⟨66, r.1, r.2, true⟩ :=
  ⟨FdOk.of Go.Proofs.Try.func66 (by kernel_rfl), by kernel_rfl, fun r hr => absurd hr (by simp [fd66]), fun r hr => absurd hr (by simp [fd66])⟩
theorem fa10000 : FdOk Go.Proofs.Try.prog fd10000 ∧ E.ld 10000 = none ∧ (∀ r ∈ fd10000.loops, E.ld r.2.lid = some ⟨10000, r.1, r.2, false⟩) ∧ ∀ r ∈ fd10000.joins, E.ld r.2.lid = some ⟨10000, r.1, r.2, true⟩ :=
  ⟨FdOk.of Go.Proofs.Try.func65 (by kernel_rfl), by kernel_rfl, fun r hr => by
    simp only [fd10000, List.mem_cons, List.not_mem_nil, or_false] at hr
    subst hr; kernel_rfl, fun r hr => absurd hr (by simp [fd10000])⟩
theorem fa67 : FdOk Go.Proofs.Try.prog fd67 ∧ E.ld 67 = none ∧ (∀ r ∈ fd67.loops, E.ld r.2.lid = some ⟨67, r.1, r.2, false⟩) ∧ ∀ r ∈ fd67.joins, E.ld r.2.lid = some ⟨67, r.1, r.2, true⟩ :=
  ⟨FdOk.of Go.Proofs.Try.func67 (by kernel_rfl), by kernel_rfl, fun r hr => absurd hr (by simp [fd67]), fun r hr => absurd hr (by simp [fd67])⟩
theorem fa15 : FdOk Go.Proofs.Try.prog fd15 ∧ E.ld 15 = none ∧ (∀ r ∈ fd15.loops, E.ld r.2.lid = some ⟨15, r.1, r.2, false⟩) ∧ ∀ r ∈ fd15.joins, E.ld r.2.lid = some ⟨15, r.1, r.2, true⟩ :=
  ⟨FdOk.of Go.Proofs.Try.func15 (by kernel_rfl), by kernel_rfl, fun r hr => by
    simp only [fd15, List.mem_cons, List.not_mem_nil, or_false] at hr
    rcases hr with rfl | rfl <;> kernel_rfl, fun r hr => absurd hr (by simp [fd15])⟩
theorem fa112 : FdOk Go.Proofs.Try.prog fd112 ∧ E.ld 112 = none ∧ (∀ r ∈ fd112.loops, E.ld r.2.lid = some ⟨112, r.1, r.2, false⟩) ∧ ∀ r ∈ fd112.joins, E.ld r.2.lid = some ⟨112, r.1, r.2, true⟩ :=
  ⟨FdOk.of Go.Proofs.Try.func112 (by kernel_rfl), by kernel_rfl, fun r hr => by
    simp only [fd112, List.mem_cons, List.not_mem_nil, or_false] at hr
    subst hr; kernel_rfl, fun r hr => absurd hr (by simp [fd112])⟩
theorem fa113 : FdOk Go.Proofs.Try.prog fd113 ∧ E.ld 113 = none ∧ (∀ r ∈ fd113.loops, E.ld r.2.lid = some ⟨113, r.1, r.2, false⟩) ∧ ∀ r ∈ fd113.joins, E.ld r.2.lid = some ⟨113, r.1, r.2, true⟩ :=
  ⟨FdOk.of Go.Proofs.Try.func113 (by kernel_rfl), by kernel_rfl, fun r hr => by
    simp only [fd113, List.mem_cons, List.not_mem_nil, or_false] at hr
    subst hr; kernel_rfl, fun r hr => absurd hr (by simp [fd113])⟩
theorem fa68 : FdOk Go.Proofs.Try.prog fd68 ∧ E.ld 68 = none ∧ (∀ r ∈ fd68.loops, E.ld r.2.lid = some ⟨68, r.1, r.2, false⟩) ∧ ∀ r ∈ fd68.joins, E.ld r.2.lid = some ⟨68, r.1, r.2, true⟩ :=
  ⟨FdOk.of Go.Proofs.Try.func68 (by kernel_rfl), by kernel_rfl, fun r hr => by
    simp only [fd68, List.mem_cons, List.not_mem_nil, or_false] at hr
    subst hr; kernel_rfl, fun r hr => absurd hr (by simp [fd68])⟩
theorem fa130 : FdOk Go.Proofs.Try.prog fd130 ∧ E.ld 130 = none ∧ (∀ r ∈ fd130.loops, E.ld r.2.lid = some ⟨130, r.1, r.2, false⟩) ∧ ∀ r ∈ fd130.joins, E.ld r.2.lid = some ⟨130, r.1, r.2, true⟩ :=
  ⟨FdOk.of Go.Proofs.Try.func130 (by kernel_rfl), by kernel_rfl, fun r hr => by
    simp only [fd130, List.mem_cons, List.not_mem_nil, or_false] at hr
    subst hr; kernel_rfl, fun r hr => absurd hr (by simp [fd130])⟩
theorem fa114 : FdOk Go.Proofs.Try.prog fd114 ∧ E.ld 114 = none ∧ (∀ r ∈ fd114.loops, E.ld r.2.lid = some ⟨114, r.1, r.2, false⟩) ∧ ∀ r ∈ fd114.joins, E.ld r.2.lid = some ⟨114, r.1, r.2, true⟩ :=
  ⟨FdOk.of Go.Proofs.Try.func114 (by kernel_rfl), by kernel_rfl, fun r hr => by
    simp only [fd114, List.mem_cons, List.not_mem_nil, or_false] at hr
    subst hr; kernel_rfl, fun r hr => absurd hr (by simp [fd114])⟩
theorem fa69 : FdOk Go.Proofs.Try.prog fd69 ∧ E.ld 69 = none ∧ (∀ r ∈ fd69.loops, E.ld r.2.lid = some ⟨69, r.1, r.2, false⟩) ∧ ∀ r ∈ fd69.joins, E.ld r.2.lid = some ⟨69, r.1, r.2, true⟩ :=
  ⟨FdOk.of Go.Proofs.Try.func69 (by kernel_rfl), by kernel_rfl, fun r hr => by
    simp only [fd69, List.mem_cons, List.not_mem_nil, or_false] at hr
    rcases hr with rfl | rfl | rfl | rfl <;> kernel_rfl, fun r hr => absurd hr (by simp [fd69])⟩
theorem fa16 : FdOk Go.Proofs.Try.prog fd16 ∧ E.ld 16 = none ∧ (∀ r ∈ fd16.loops, E.ld r.2.lid = some ⟨16, r.1, r.2, false⟩) ∧ ∀ r ∈ fd16.joins, E.ld r.2.lid = some ⟨16, r.1, r.2, true⟩ :=
  ⟨FdOk.of Go.Proofs.Try.func16 (by kernel_rfl), by kernel_rfl, fun r hr => absurd hr (by simp [fd16]), fun r hr => absurd hr (by simp [fd16])⟩
theorem fa17 : FdOk Go.Proofs.Try.prog fd17 ∧ E.ld 17 = none ∧ (∀ r ∈ fd17.loops, E.ld r.2.lid = some ⟨17, r.1, r.2, false⟩) ∧ ∀ r ∈ fd17.joins, E.ld r.2.lid = some ⟨17, r.1, r.2, true⟩ :=
  ⟨FdOk.of Go.Proofs.Try.func17 (by kernel_rfl), by kernel_rfl, fun r hr => by
    simp only [fd17, List.mem_cons, List.not_mem_nil, or_false] at hr
    subst hr; kernel_rfl, fun r hr => absurd hr (by simp [fd17])⟩
theorem fa19 : FdOk Go.Proofs.Try.prog fd19 ∧ E.ld 19 = none ∧ (∀ r ∈ fd19.loops, E.ld r.2.lid = some ⟨19, r.1, r.2, false⟩) ∧ ∀ r ∈ fd19.joins, E.ld r.2.lid = some ⟨19, r.1, r.2, true⟩ :=
  ⟨FdOk.of Go.Proofs.Try.func19 (by kernel_rfl), by kernel_rfl, fun r hr => absurd hr (by simp [fd19]), fun r hr => absurd hr (by simp [fd19])⟩
theorem fa20 : FdOk Go.Proofs.Try.prog fd20 ∧ E.ld 20 = none ∧ (∀ r ∈ fd20.loops, E.ld r.2.lid = some ⟨20, r.1, r.2, false⟩) ∧ ∀ r ∈ fd20.joins, E.ld r.2.lid = some ⟨20, r.1, r.2, true⟩ :=
  ⟨FdOk.of Go.Proofs.Try.func20 (by kernel_rfl), by kernel_rfl, fun r hr => absurd hr (by simp [fd20]), fun r hr => absurd hr (by simp [fd20])⟩
theorem fa116 : FdOk Go.Proofs.Try.prog fd116 ∧ E.ld 116 = none ∧ (∀ r ∈ fd116.loops, E.ld r.2.lid = some ⟨116, r.1, r.2, false⟩) ∧ ∀ r ∈ fd116.joins, E.ld r.2.lid = some ⟨116, r.1, r.2, true⟩ :=
  ⟨FdOk.of Go.Proofs.Try.func116 (by kernel_rfl), by kernel_rfl, fun r hr => by
    simp only [fd116, List.mem_cons, List.not_mem_nil, or_false] at hr
    subst hr; kernel_rfl, fun r hr => absurd hr (by simp [fd116])⟩
theorem fa77 : FdOk Go.Proofs.Try.prog fd77 ∧ E.ld 77 = none ∧ (∀ r ∈ fd77.loops, E.ld r.2.lid = some ⟨77, r.1, r.2, false⟩) ∧ ∀ r ∈ fd77.joins, E.ld r.2.lid = some ⟨77, r.1, r.2, true⟩ :=
  ⟨FdOk.of Go.Proofs.Try.func77 (by kernel_rfl), by kernel_rfl, fun r hr => absurd hr (by simp [fd77]), fun r hr => absurd hr (by simp [fd77])⟩
theorem fa21 : FdOk Go.Proofs.Try.prog fd21 ∧ E.ld 21 = none ∧ (∀ r ∈ fd21.loops, E.ld r.2.lid = some ⟨21, r.1, r.2, false⟩) ∧ ∀ r ∈ fd21.joins, E.ld r.2.lid = some ⟨21, r.1, r.2, true⟩ :=
  ⟨FdOk.of Go.Proofs.Try.func21 (by kernel_rfl), by kernel_rfl, fun r hr => absurd hr (by simp [fd21]), fun r hr => absurd hr (by simp [fd21])⟩
theorem fa117 : FdOk Go.Proofs.Try.prog fd117 ∧ E.ld 117 = none ∧ (∀ r ∈ fd117.loops, E.ld r.2.lid = some ⟨117, r.1, r.2, false⟩) ∧ ∀ r ∈ fd117.joins, E.ld r.2.lid = some ⟨117, r.1, r.2, true⟩ :=
  ⟨FdOk.of Go.Proofs.Try.func117 (by kernel_rfl), by kernel_rfl, fun r hr => by
    simp only [fd117, List.mem_cons, List.not_mem_nil, or_false] at hr
    subst hr; kernel_rfl, fun r hr => absurd hr (by simp [fd117])⟩
theorem fa78 : FdOk Go.Proofs.Try.prog fd78 ∧ E.ld 78 = none ∧ (∀ r ∈ fd78.loops, E.ld r.2.lid = some ⟨78, r.1, r.2, false⟩) ∧ ∀ r ∈ fd78.joins, E.ld r.2.lid = some ⟨78, r.1, r.2, true⟩ :=
  ⟨FdOk.of Go.Proofs.Try.func78 (by kernel_rfl), by kernel_rfl, fun r hr => absurd hr (by simp [fd78]), fun r hr => absurd hr (by simp [fd78])⟩
theorem fa22 : FdOk Go.Proofs.Try.prog fd22 ∧ E.ld 22 = none ∧ (∀ r ∈ fd22.loops, E.ld r.2.lid = some ⟨22, r.1, r.2, false⟩) ∧ ∀ r ∈ fd22.joins, E.ld r.2.lid = some ⟨22, r.1, r.2, true⟩ :=
  ⟨FdOk.of Go.Proofs.Try.func22 (by kernel_rfl), by kernel_rfl, fun r hr => absurd hr (by simp [fd22]), fun r hr => absurd hr (by simp [fd22])⟩
theorem fa23 : FdOk Go.Proofs.Try.prog fd23 ∧ E.ld 23 = none ∧ (∀ r ∈ fd23.loops, E.ld r.2.lid = some ⟨23, r.1, r.2, false⟩) ∧ ∀ r ∈ fd23.joins, E.ld r.2.lid = some ⟨23, r.1, r.2, true⟩ :=
  ⟨FdOk.of Go.Proofs.Try.func23 (by kernel_rfl), by kernel_rfl, fun r hr => absurd hr (by simp [fd23]), fun r hr => absurd hr (by simp [fd23])⟩
theorem fa24 : FdOk Go.Proofs.Try.prog fd24 ∧ E.ld 24 = none ∧ (∀ r ∈ fd24.loops, E.ld r.2.lid = some ⟨24, r.1, r.2, false⟩) ∧ ∀ r ∈ fd24.joins, E.ld r.2.lid = some ⟨24, r.1, r.2, true⟩ :=
  ⟨FdOk.of Go.Proofs.Try.func24 (by kernel_rfl), by kernel_rfl, fun r hr => absurd hr (by simp [fd24]), fun r hr => absurd hr (by simp [fd24])⟩
theorem fa25 : FdOk Go.Proofs.Try.prog fd25 ∧ E.ld 25 = none ∧ (∀ r ∈ fd25.loops, E.ld r.2.lid = some ⟨25, r.1, r.2, false⟩) ∧ ∀ r ∈ fd25.joins, E.ld r.2.lid = some ⟨25, r.1, r.2, true⟩ :=
  ⟨FdOk.of Go.Proofs.Try.func25 (by kernel_rfl), by kernel_rfl, fun r hr => absurd hr (by simp [fd25]), fun r hr => absurd hr (by simp [fd25])⟩
theorem fa26 : FdOk Go.Proofs.Try.prog fd26 ∧ E.ld 26 = none ∧ (∀ r ∈ fd26.loops, E.ld r.2.lid = some ⟨26, r.1, r.2, false⟩) ∧ ∀ r ∈ fd26.joins, E.ld r.2.lid = some ⟨26, r.1, r.2, true⟩ :=
  ⟨FdOk.of Go.Proofs.Try.func26 (by kernel_rfl), by kernel_rfl, fun r hr => absurd hr (by simp [fd26]), fun r hr => absurd hr (by simp [fd26])⟩
theorem fa27 : FdOk Go.Proofs.Try.prog fd27 ∧ E.ld 27 = none ∧ (∀ r ∈ fd27.loops, E.ld r.2.lid = some ⟨27, r.1, r.2, false⟩) ∧ ∀ r ∈ fd27.joins, E.ld r.2.lid = some ⟨27, r.1, r.2, true⟩ :=
  ⟨FdOk.of Go.Proofs.Try.func27 (by kernel_rfl), by kernel_rfl, fun r hr => absurd hr (by simp [fd27]), fun r hr => absurd hr (by simp [fd27])⟩
theorem fa79 : FdOk Go.Proofs.Try.prog fd79 ∧ E.ld 79 = none ∧ (∀ r ∈ fd79.loops, E.ld r.2.lid = some ⟨79, r.1, r.2, false⟩) ∧ ∀ r ∈ fd79.joins, E.ld r.2.lid = some ⟨79, r.1, r.2, true⟩ :=
  ⟨FdOk.of Go.Proofs.Try.func79 (by kernel_rfl), by kernel_rfl, fun r hr => absurd hr (by simp [fd79]), fun r hr => absurd hr (by simp [fd79])⟩
theorem fa28 : FdOk Go.Proofs.Try.prog fd28 ∧ E.ld 28 = none ∧ (∀ r ∈ fd28.loops, E.ld r.2.lid = some ⟨28, r.1, r.2, false⟩) ∧ ∀ r ∈ fd28.joins, E.ld r.2.lid = some ⟨28, r.1, r.2, true⟩ :=
  ⟨FdOk.of Go.Proofs.Try.func28 (by kernel_rfl), by kernel_rfl, fun r hr => by
    simp only [fd28, List.mem_cons, List.not_mem_nil, or_false] at hr
    subst hr; kernel_rfl, fun r hr => absurd hr (by simp [fd28])⟩
theorem fa80 : FdOk Go.Proofs.Try.prog fd80 ∧ E.ld 80 = none ∧ (∀ r ∈ fd80.loops, E.ld r.2.lid = some ⟨80, r.1, r.2, false⟩) ∧ ∀ r ∈ fd80.joins, E.ld r.2.lid = some ⟨80, r.1, r.2, true⟩ :=
  ⟨FdOk.of Go.Proofs.Try.func80 (by kernel_rfl), by kernel_rfl, fun r hr => by
    simp only [fd80, List.mem_cons, List.not_mem_nil, or_false] at hr
    subst hr; kernel_rfl, fun r hr => absurd hr (by simp [fd80])⟩
theorem fa29 : FdOk Go.Proofs.Try.prog fd29 ∧ E.ld 29 = none ∧ (∀ r ∈ fd29.loops, E.ld r.2.lid = some ⟨29, r.1, r.2, false⟩) ∧ ∀ r ∈ fd29.joins, E.ld r.2.lid = some ⟨29, r.1, r.2, true⟩ :=
  ⟨FdOk.of Go.Proofs.Try.func29 (by kernel_rfl), by kernel_rfl, fun r hr => absurd hr (by simp [fd29]), fun r hr => absurd hr (by simp [fd29])⟩
theorem fa3 : FdOk Go.Proofs.Try.prog fd3 ∧ E.ld 3 = none ∧ (∀ r ∈ fd3.loops, E.ld r.2.lid = some ⟨3, r.1, r.2, false⟩) ∧ ∀ r ∈ fd3.joins, E.ld r.2.lid = some ⟨3, r.1, r.2, true⟩ :=
  ⟨FdOk.of Go.Proofs.Try.func3 (by kernel_rfl), by kernel_rfl, fun r hr => by
    simp only [fd3, List.mem_cons, List.not_mem_nil, or_false] at hr
    subst hr; kernel_rfl, fun r hr => by
    simp only [fd3, List.mem_cons, List.not_mem_nil, or_false] at hr
    rcases hr with rfl | rfl | rfl <;> kernel_rfl⟩
theorem fa81 : FdOk Go.Proofs.Try.prog fd81 ∧ E.ld 81 = none ∧ (∀ r ∈ fd81.loops, E.ld r.2.lid = some ⟨81, r.1, r.2, false⟩) ∧ ∀ r ∈ fd81.joins, E.ld r.2.lid = some ⟨81, r.1, r.2, true⟩ :=
  ⟨FdOk.of Go.Proofs.Try.func81 (by kernel_rfl), by kernel_rfl, fun r hr => absurd hr (by simp [fd81]), fun r hr => absurd hr (by simp [fd81])⟩
theorem fa30 : FdOk Go.Proofs.Try.prog fd30 ∧ E.ld 30 = none ∧ (∀ r ∈ fd30.loops, E.ld r.2.lid = some ⟨30, r.1, r.2, false⟩) ∧ ∀ r ∈ fd30.joins, E.ld r.2.lid = some ⟨30, r.1, r.2, true⟩ :=
  ⟨FdOk.of Go.Proofs.Try.func30 (by kernel_rfl), by kernel_rfl, fun r hr => absurd hr (by simp [fd30]), fun r hr => absurd hr (by simp [fd30])⟩
theorem fa82 : FdOk Go.Proofs.Try.prog fd82 ∧ E.ld 82 = none ∧ (∀ r ∈ fd82.loops, E.ld r.2.lid = some ⟨82, r.1, r.2, false⟩) ∧ ∀ r ∈ fd82.joins, E.ld r.2.lid = some ⟨82, r.1, r.2, true⟩ :=
  ⟨FdOk.of Go.Proofs.Try.func82 (by kernel_rfl), by kernel_rfl, fun r hr => absurd hr (by simp [fd82]), fun r hr => absurd hr (by simp [fd82])⟩
theorem fa100 : FdOk Go.Proofs.Try.prog fd100 ∧ E.ld 100 = none ∧ (∀ r ∈ fd100.loops, E.ld r.2.lid = some ⟨100, r.1, r.2, false⟩) ∧ ∀ r ∈ fd100.joins, E.ld r.2.lid = some ⟨100, r.1, r.2, true⟩ :=
  ⟨FdOk.of Go.Proofs.Try.func100 (by kernel_rfl), by kernel_rfl, fun r hr => absurd hr (by simp [fd100]), fun r hr => absurd hr (by simp [fd100])⟩
theorem fa83 : FdOk Go.Proofs.Try.prog fd83 ∧ E.ld 83 = none ∧ (∀ r ∈ fd83.loops, E.ld r.2.lid = some ⟨83, r.1, r.2, false⟩) ∧ ∀ r ∈ fd83.joins, E.ld r.2.lid = some ⟨83, r.1, r.2, true⟩ :=
  ⟨FdOk.of Go.Proofs.Try.func83 (by kernel_rfl), by kernel_rfl, fun r hr => by
    simp only [fd83, List.mem_cons, List.not_mem_nil, or_false] at hr
    subst hr; kernel_rfl, fun r hr => absurd hr (by simp [fd83])⟩
theorem fa31 : FdOk Go.Proofs.Try.prog fd31 ∧ E.ld 31 = none ∧ (∀ r ∈ fd31.loops, E.ld r.2.lid = some ⟨31, r.1, r.2, false⟩) ∧ ∀ r ∈ fd31.joins, E.ld r.2.lid = some ⟨31, r.1, r.2, true⟩ :=
  ⟨FdOk.of Go.Proofs.Try.func31 (by kernel_rfl), by kernel_rfl, fun r hr => absurd hr (by simp [fd31]), fun r hr => absurd hr (by simp [fd31])⟩
theorem fa84 : FdOk Go.Proofs.Try.prog fd84 ∧ E.ld 84 = none ∧ (∀ r ∈ fd84.loops, E.ld r.2.lid = some ⟨84, r.1, r.2, false⟩) ∧ ∀ r ∈ fd84.joins, E.ld r.2.lid = some ⟨84, r.1, r.2, true⟩ :=
  ⟨FdOk.of Go.Proofs.Try.func84 (by kernel_rfl), by kernel_rfl, fun r hr => absurd hr (by simp [fd84]), fun r hr => absurd hr (by simp [fd84])⟩
theorem fa85 : FdOk Go.Proofs.Try.prog fd85 ∧ E.ld 85 = none ∧ (∀ r ∈ fd85.loops, E.ld r.2.lid = some ⟨85, r.1, r.2, false⟩) ∧ ∀ r ∈ fd85.joins, E.ld r.2.lid = some ⟨85, r.1, r.2, true⟩ :=
  ⟨FdOk.of Go.Proofs.Try.func85 (by kernel_rfl), by kernel_rfl, fun r hr => absurd hr (by simp [fd85]), fun r hr => absurd hr (by simp [fd85])⟩
theorem fa32 : FdOk Go.Proofs.Try.prog fd32 ∧ E.ld 32 = none ∧ (∀ r ∈ fd32.loops, E.ld r.2.lid = some ⟨32, r.1, r.2, false⟩) ∧ ∀ r ∈ fd32.joins, E.ld r.2.lid = some ⟨32, r.1, r.2, true⟩ :=
  ⟨FdOk.of Go.Proofs.Try.func32 (by kernel_rfl), by kernel_rfl, fun r hr => absurd hr (by simp [fd32]), fun r hr => absurd hr (by simp [fd32])⟩
theorem fa33 : FdOk Go.Proofs.Try.prog fd33 ∧ E.ld 33 = none ∧ (∀ r ∈ fd33.loops, E.ld r.2.lid = some ⟨33, r.1, r.2, false⟩) ∧ ∀ r ∈ fd33.joins, E.ld r.2.lid = some ⟨33, r.1, r.2, true⟩ :=
  ⟨FdOk.of Go.Proofs.Try.func33 (by kernel_rfl), by kernel_rfl, fun r hr => absurd hr (by simp [fd33]), fun r hr => absurd hr (by simp [fd33])⟩
theorem fa86 : FdOk Go.Proofs.Try.prog fd86 ∧ E.ld 86 = none ∧ (∀ r ∈ fd86.loops, E.ld r.2.lid = some ⟨86, r.1, r.2, false⟩) ∧ ∀ r ∈ fd86.joins, E.ld r.2.lid = some ⟨86, r.1, r.2, true⟩ :=
  ⟨FdOk.of Go.Proofs.Try.func86 (by kernel_rfl), by kernel_rfl, fun r hr => by
    simp only [fd86, List.mem_cons, List.not_mem_nil, or_false] at hr
    subst hr; kernel_rfl, fun r hr => absurd hr (by simp [fd86])⟩
theorem fa34 : FdOk Go.Proofs.Try.prog fd34 ∧ E.ld 34 = none ∧ (∀ r ∈ fd34.loops, E.ld r.2.lid = some ⟨34, r.1, r.2, false⟩) ∧ ∀ r ∈ fd34.joins, E.ld r.2.lid = some ⟨34, r.1, r.2, true⟩ :=
  ⟨FdOk.of Go.Proofs.Try.func34 (by kernel_rfl), by kernel_rfl, fun r hr => absurd hr (by simp [fd34]), fun r hr => absurd hr (by simp [fd34])⟩
theorem fa87 : FdOk Go.Proofs.Try.prog fd87 ∧ E.ld 87 = none ∧ (∀ r ∈ fd87.loops, E.ld r.2.lid = some ⟨87, r.1, r.2, false⟩) ∧ ∀ r ∈ fd87.joins, E.ld r.2.lid = some ⟨87, r.1, r.2, true⟩ :=
  ⟨FdOk.of Go.Proofs.Try.func87 (by kernel_rfl), by kernel_rfl, fun r hr => by
    simp only [fd87, List.mem_cons, List.not_mem_nil, or_false] at hr
    subst hr; kernel_rfl, fun r hr => absurd hr (by simp [fd87])⟩
theorem fa35 : FdOk Go.Proofs.Try.prog fd35 ∧ E.ld 35 = none ∧ (∀ r ∈ fd35.loops, E.ld r.2.lid = some ⟨35, r.1, r.2, false⟩) ∧ ∀ r ∈ fd35.joins, E.ld r.2.lid = some ⟨35, r.1, r.2, true⟩ :=
  ⟨FdOk.of Go.Proofs.Try.func35 (by kernel_rfl), by kernel_rfl, fun r hr => absurd hr (by simp [fd35]), fun r hr => absurd hr (by simp [fd35])⟩
theorem fa36 : FdOk Go.Proofs.Try.prog fd36 ∧ E.ld 36 = none ∧ (∀ r ∈ fd36.loops, E.ld r.2.lid = some ⟨36, r.1, r.2, false⟩) ∧ ∀ r ∈ fd36.joins, E.ld r.2.lid = some ⟨36, r.1, r.2, true⟩ :=
  ⟨FdOk.of Go.Proofs.Try.func36 (by kernel_rfl), by kernel_rfl, fun r hr => absurd hr (by simp [fd36]), fun r hr => absurd hr (by simp [fd36])⟩
theorem fa37 : FdOk Go.Proofs.Try.prog fd37 ∧ E.ld 37 = none ∧ (∀ r ∈ fd37.loops, E.ld r.2.lid = some ⟨37, r.1, r.2, false⟩) ∧ ∀ r ∈ fd37.joins, E.ld r.2.lid = some ⟨37, r.1, r.2, true⟩ :=
  ⟨FdOk.of Go.Proofs.Try.func37 (by kernel_rfl), by kernel_rfl, fun r hr => by
    simp only [fd37, List.mem_cons, List.not_mem_nil, or_false] at hr
    subst hr; kernel_rfl, fun r hr => absurd hr (by simp [fd37])⟩
theorem fa38 : FdOk Go.Proofs.Try.prog fd38 ∧ E.ld 38 = none ∧ (∀ r ∈ fd38.loops, E.ld r.2.lid = some ⟨38, r.1, r.2, false⟩) ∧ ∀ r ∈ fd38.joins, E.ld r.2.lid = some ⟨38, r.1, r.2, true⟩ :=
  ⟨FdOk.of Go.Proofs.Try.func38 (by kernel_rfl), by kernel_rfl, fun r hr => by
    simp only [fd38, List.mem_cons, List.not_mem_nil, or_false] at hr
    subst hr; kernel_rfl, fun r hr => absurd hr (by simp [fd38])⟩
theorem fa39 : FdOk Go.Proofs.Try.prog fd39 ∧ E.ld 39 = none ∧ (∀ r ∈ fd39.loops, E.ld r.2.lid = some ⟨39, r.1, r.2, false⟩) ∧ ∀ r ∈ fd39.joins, E.ld r.2.lid = some ⟨39, r.1, r.2, true⟩ :=
  ⟨FdOk.of Go.Proofs.Try.func39 (by kernel_rfl), by kernel_rfl, fun r hr => absurd hr (by simp [fd39]), fun r hr => absurd hr (by simp [fd39])⟩
theorem fa41 : FdOk Go.Proofs.Try.prog fd41 ∧ E.ld 41 = none ∧ (∀ r ∈ fd41.loops, E.ld r.2.lid = some ⟨41, r.1, r.2, false⟩) ∧ ∀ r ∈ fd41.joins, E.ld r.2.lid = some ⟨41, r.1, r.2, true⟩ :=
  ⟨FdOk.of Go.Proofs.Try.func41 (by kernel_rfl), by kernel_rfl, fun r hr => by
    simp only [fd41, List.mem_cons, List.not_mem_nil, or_false] at hr
    subst hr; kernel_rfl, fun r hr => absurd hr (by simp [fd41])⟩
theorem fa90 : FdOk Go.Proofs.Try.prog fd90 ∧ E.ld 90 = none ∧ (∀ r ∈ fd90.loops, E.ld r.2.lid = some ⟨90, r.1, r.2, false⟩) ∧ ∀ r ∈ fd90.joins, E.ld r.2.lid = some ⟨90, r.1, r.2, true⟩ :=
  ⟨FdOk.of Go.Proofs.Try.func90 (by kernel_rfl), by kernel_rfl, fun r hr => absurd hr (by simp [fd90]), fun r hr => absurd hr (by simp [fd90])⟩
theorem fa40 : FdOk Go.Proofs.Try.prog fd40 ∧ E.ld 40 = none ∧ (∀ r ∈ fd40.loops, E.ld r.2.lid = some ⟨40, r.1, r.2, false⟩) ∧ ∀ r ∈ fd40.joins, E.ld r.2.lid = some ⟨40, r.1, r.2, true⟩ :=
  ⟨FdOk.of Go.Proofs.Try.func40 (by kernel_rfl), by kernel_rfl, fun r hr => by
    simp only [fd40, List.mem_cons, List.not_mem_nil, or_false] at hr
    subst hr; kernel_rfl, fun r hr => absurd hr (by simp [fd40])⟩
theorem fa4 : FdOk Go.Proofs.Try.prog fd4 ∧ E.ld 4 = none ∧ (∀ r ∈ fd4.loops, E.ld r.2.lid = some ⟨4, r.1, r.2, false⟩) ∧ ∀ r ∈ fd4.joins, E.ld r.2.lid = some ⟨4, r.1, r.2, true⟩ :=
  ⟨FdOk.of Go.Proofs.Try.func4 (by kernel_rfl), by kernel_rfl, fun r hr => absurd hr (by simp [fd4]), fun r hr => by
    simp only [fd4, List.mem_cons, List.not_mem_nil, or_false] at hr
    rcases hr with rfl | rfl <;> kernel_rfl⟩
theorem fa91 : FdOk Go.Proofs.Try.prog fd91 ∧ E.ld 91 = none ∧ (∀ r ∈ fd91.loops, E.ld r.2.lid = some ⟨91, r.1, r.2, false⟩) ∧ ∀ r ∈ fd91.joins, E.ld r.2.lid = some ⟨91, r.1, r.2, true⟩ :=
  ⟨FdOk.of Go.Proofs.Try.func91 (by kernel_rfl), by kernel_rfl, fun r hr => absurd hr (by simp [fd91]), fun r hr => absurd hr (by simp [fd91])⟩
theorem fa42 : FdOk Go.Proofs.Try.prog fd42 ∧ E.ld 42 = none ∧ (∀ r ∈ fd42.loops, E.ld r.2.lid = some ⟨42, r.1, r.2, false⟩) ∧ ∀ r ∈ fd42.joins, E.ld r.2.lid = some ⟨42, r.1, r.2, true⟩ :=
  ⟨FdOk.of Go.Proofs.Try.func42 (by kernel_rfl), by kernel_rfl, fun r hr => absurd hr (by simp [fd42]), fun r hr => absurd hr (by simp [fd42])⟩
theorem fa92 : FdOk Go.Proofs.Try.prog fd92 ∧ E.ld 92 = none ∧ (∀ r ∈ fd92.loops, E.ld r.2.lid = some ⟨92, r.1, r.2, false⟩) ∧ ∀ r ∈ fd92.joins, E.ld r.2.lid = some ⟨92, r.1, r.2, true⟩ :=
  ⟨FdOk.of Go.Proofs.Try.func92 (by kernel_rfl), by kernel_rfl, fun r hr => absurd hr (by simp [fd92]), fun r hr => absurd hr (by simp [fd92])⟩
theorem fa95 : FdOk Go.Proofs.Try.prog fd95 ∧ E.ld 95 = none ∧ (∀ r ∈ fd95.loops, E.ld r.2.lid = some ⟨95, r.1, r.2, false⟩) ∧ ∀ r ∈ fd95.joins, E.ld r.2.lid = some ⟨95, r.1, r.2, true⟩ :=
  ⟨FdOk.of Go.Proofs.Try.func95 (by kernel_rfl), by kernel_rfl, fun r hr => absurd hr (by simp [fd95]), fun r hr => absurd hr (by simp [fd95])⟩
theorem fa97 : FdOk Go.Proofs.Try.prog fd97 ∧ E.ld 97 = none ∧ (∀ r ∈ fd97.loops, E.ld r.2.lid = some ⟨97, r.1, r.2, false⟩) ∧ ∀ r ∈ fd97.joins, E.ld r.2.lid = some ⟨97, r.1, r.2, true⟩ :=
  ⟨FdOk.of Go.Proofs.Try.func97 (by kernel_rfl), by kernel_rfl, fun r hr => absurd hr (by simp [fd97]), fun r hr => absurd hr (by simp [fd97])⟩
theorem fa43 : FdOk Go.Proofs.Try.prog fd43 ∧ E.ld 43 = none ∧ (∀ r ∈ fd43.loops, E.ld r.2.lid = some ⟨43, r.1, r.2, false⟩) ∧ ∀ r ∈ fd43.joins, E.ld r.2.lid = some ⟨43, r.1, r.2, true⟩ :=
  ⟨FdOk.of Go.Proofs.Try.func43 (by kernel_rfl), by kernel_rfl, fun r hr => by
    simp only [fd43, List.mem_cons, List.not_mem_nil, or_false] at hr
    subst hr; kernel_rfl, fun r hr => absurd hr (by simp [fd43])⟩
theorem fa98 : FdOk Go.Proofs.Try.prog fd98 ∧ E.ld 98 = none ∧ (∀ r ∈ fd98.loops, E.ld r.2.lid = some ⟨98, r.1, r.2, false⟩) ∧ ∀ r ∈ fd98.joins, E.ld r.2.lid = some ⟨98, r.1, r.2, true⟩ :=
  ⟨FdOk.of Go.Proofs.Try.func98 (by kernel_rfl), by kernel_rfl, fun r hr => absurd hr (by simp [fd98]), fun r hr => absurd hr (by simp [fd98])⟩
theorem fa125 : FdOk Go.Proofs.Try.prog fd125 ∧ E.ld 125 = none ∧ (∀ r ∈ fd125.loops, E.ld r.2.lid = some ⟨125, r.1, r.2, false⟩) ∧ ∀ r ∈ fd125.joins, E.ld r.2.lid = some ⟨125, r.1, r.2, true⟩ :=
  ⟨FdOk.of Go.Proofs.Try.func125 (by kernel_rfl), by kernel_rfl, fun r hr => absurd hr (by simp [fd125]), fun r hr => absurd hr (by simp [fd125])⟩
theorem fa126 : FdOk Go.Proofs.Try.prog fd126 ∧ E.ld 126 = none ∧ (∀ r ∈ fd126.loops, E.ld r.2.lid = some ⟨126, r.1, r.2, false⟩) ∧ ∀ r ∈ fd126.joins, E.ld r.2.lid = some ⟨126, r.1, r.2, true⟩ :=
  ⟨FdOk.of Go.Proofs.Try.func126 (by kernel_rfl), by kernel_rfl, fun r hr => absurd hr (by simp [fd126]), fun r hr => absurd hr (by simp [fd126])⟩
theorem fa99 : FdOk Go.Proofs.Try.prog fd99 ∧ E.ld 99 = none ∧ (∀ r ∈ fd99.loops, E.ld r.2.lid = some ⟨99, r.1, r.2, false⟩) ∧ ∀ r ∈ fd99.joins, E.ld r.2.lid = some ⟨99, r.1, r.2, true⟩ :=
  ⟨FdOk.of Go.Proofs.Try.func99 (by kernel_rfl), by kernel_rfl, fun r hr => by
    simp only [fd99, List.mem_cons, List.not_mem_nil, or_false] at hr
    subst hr; kernel_rfl, fun r hr => absurd hr (by simp [fd99])⟩
theorem fa44 : FdOk Go.Proofs.Try.prog fd44 ∧ E.ld 44 = none ∧ (∀ r ∈ fd44.loops, E.ld r.2.lid = some ⟨44, r.1, r.2, false⟩) ∧ ∀ r ∈ fd44.joins, E.ld r.2.lid = some ⟨44, r.1, r.2, true⟩ :=
  ⟨FdOk.of Go.Proofs.Try.func44 (by kernel_rfl), by kernel_rfl, fun r hr => absurd hr (by simp [fd44]), fun r hr => absurd hr (by simp [fd44])⟩
theorem fa45 : FdOk Go.Proofs.Try.prog fd45 ∧ E.ld 45 = none ∧ (∀ r ∈ fd45.loops, E.ld r.2.lid = some ⟨45, r.1, r.2, false⟩) ∧ ∀ r ∈ fd45.joins, E.ld r.2.lid = some ⟨45, r.1, r.2, true⟩ :=
  ⟨FdOk.of Go.Proofs.Try.func45 (by kernel_rfl), by kernel_rfl, fun r hr => absurd hr (by simp [fd45]), fun r hr => absurd hr (by simp [fd45])⟩
theorem fa46 : FdOk Go.Proofs.Try.prog fd46 ∧ E.ld 46 = none ∧ (∀ r ∈ fd46.loops, E.ld r.2.lid = some ⟨46, r.1, r.2, false⟩) ∧ ∀ r ∈ fd46.joins, E.ld r.2.lid = some ⟨46, r.1, r.2, true⟩ :=
  ⟨FdOk.of Go.Proofs.Try.func46 (by kernel_rfl), by kernel_rfl, fun r hr => absurd hr (by simp [fd46]), fun r hr => absurd hr (by simp [fd46])⟩
theorem fa47 : FdOk Go.Proofs.Try.prog fd47 ∧ E.ld 47 = none ∧ (∀ r ∈ fd47.loops, E.ld r.2.lid = some ⟨47, r.1, r.2, false⟩) ∧ ∀ r ∈ fd47.joins, E.ld r.2.lid = some ⟨47, r.1, r.2, true⟩ :=
  ⟨FdOk.of Go.Proofs.Try.func47 (by kernel_rfl), by kernel_rfl, fun r hr => absurd hr (by simp [fd47]), fun r hr => absurd hr (by simp [fd47])⟩
theorem fa48 : FdOk Go.Proofs.Try.prog fd48 ∧ E.ld 48 = none ∧ (∀ r ∈ fd48.loops, E.ld r.2.lid = some ⟨48, r.1, r.2, false⟩) ∧ ∀ r ∈ fd48.joins, E.ld r.2.lid = some ⟨48, r.1, r.2, true⟩ :=
  ⟨FdOk.of Go.Proofs.Try.func48 (by kernel_rfl), by kernel_rfl, fun r hr => absurd hr (by simp [fd48]), fun r hr => absurd hr (by simp [fd48])⟩
theorem fa49 : FdOk Go.Proofs.Try.prog fd49 ∧ E.ld 49 = none ∧ (∀ r ∈ fd49.loops, E.ld r.2.lid = some ⟨49, r.1, r.2, false⟩) ∧ ∀ r ∈ fd49.joins, E.ld r.2.lid = some ⟨49, r.1, r.2, true⟩ :=
  ⟨FdOk.of Go.Proofs.Try.func49 (by kernel_rfl), by kernel_rfl, fun r hr => absurd hr (by simp [fd49]), fun r hr => absurd hr (by simp [fd49])⟩
theorem fa50 : FdOk Go.Proofs.Try.prog fd50 ∧ E.ld 50 = none ∧ (∀ r ∈ fd50.loops, E.ld r.2.lid = some ⟨50, r.1, r.2, false⟩) ∧ ∀ r ∈ fd50.joins, E.ld r.2.lid = some ⟨50, r.1, r.2, true⟩ :=
  ⟨FdOk.of Go.Proofs.Try.func50 (by kernel_rfl), by kernel_rfl, fun r hr => absurd hr (by simp [fd50]), fun r hr => absurd hr (by simp [fd50])⟩
theorem fa5 : FdOk Go.Proofs.Try.prog fd5 ∧ E.ld 5 = none ∧ (∀ r ∈ fd5.loops, E.ld r.2.lid = some ⟨5, r.1, r.2, false⟩) ∧ ∀ r ∈ fd5.joins, E.ld r.2.lid = some ⟨5, r.1, r.2, true⟩ :=
  ⟨FdOk.of Go.Proofs.Try.func5 (by kernel_rfl), by kernel_rfl, fun r hr => absurd hr (by simp [fd5]), fun r hr => by
    simp only [fd5, List.mem_cons, List.not_mem_nil, or_false] at hr
    rcases hr with rfl | rfl <;> kernel_rfl⟩
theorem envOk : EnvOk Go.Proofs.Try.prog E := EnvOk.of (envTy_of rfl tyOk strOk) (by kernel_rfl) rfl (by
  simp only [fdTab, List.forall_mem_cons]
  exact ⟨fa6, fa52, fa75, fa88, fa76, fa127, fa101, fa102, fa51, fa7, fa71, fa70, fa103, fa53, fa73, fa104, fa60, fa64, fa123, fa122, fa118, fa94, fa96, fa121, fa93, fa128, fa105, fa55, fa54, fa8, fa89, fa56, fa109, fa107, fa110, fa131, fa133, fa120, fa61, fa129, fa134, fa124, fa132, fa119, fa106, fa58, fa57, fa9, fa10, fa11, fa59, fa12, fa13, fa108, fa62, fa14, fa72, fa115, fa111, fa74, fa18, fa63, fa66, fa10000, fa67, fa15, fa112, fa113, fa68, fa130, fa114, fa69, fa16, fa17, fa19, fa20, fa116, fa77, fa21, fa117, fa78, fa22, fa23, fa24, fa25, fa26, fa27, fa79, fa28, fa80, fa29, fa3, fa81, fa30, fa82, fa100, fa83, fa31, fa84, fa85, fa32, fa33, fa86, fa34, fa87, fa35, fa36, fa37, fa38, fa39, fa41, fa90, fa40, fa4, fa91, fa42, fa92, fa95, fa97, fa43, fa98, fa125, fa126, fa99, fa44, fa45, fa46, fa47, fa48, fa49, fa50, fa5, fun q hq => absurd hq (by simp)⟩)
end Go.Ev.Ytpfpjhfimmmkmaa
