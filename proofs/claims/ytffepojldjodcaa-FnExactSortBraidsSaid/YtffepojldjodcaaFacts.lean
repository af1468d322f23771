/- The evaluator's tables are the program's. -/
import Derived.KernelRfl
import Derived.Test.YtffepojldjodcaaEnv
import Derived.Test.YtffepojldjodcaaV3
set_option linter.unusedVariables false
namespace Go.Ev.Ytffepojldjodcaa
open Go.Ev
theorem strOk : E.str.all (isStrB Go.Proofs.Try.prog) = true := by kernel_rfl
theorem tyOk : tyTab.all (fun q => tyOkB Go.Proofs.Try.prog q.2 q.1) = true := by kernel_rfl
theorem fa49 : FdOk Go.Proofs.Try.prog fd49 ∧ E.ld 49 = none ∧ (∀ r ∈ fd49.loops, E.ld r.2.lid = some ⟨49, r.1, r.2, false⟩) ∧ ∀ r ∈ fd49.joins, E.ld r.2.lid = some ⟨49, r.1, r.2, true⟩ :=
  ⟨FdOk.of Go.Proofs.Try.func49 (by kernel_rfl), by kernel_rfl, fun r hr => absurd hr (by simp [fd49]), fun r hr => absurd hr (by simp [fd49])⟩
theorem fa17 : FdOk Go.Proofs.Try.prog fd17 ∧ E.ld 17 = none ∧ (∀ r ∈ fd17.loops, E.ld r.2.lid = some ⟨17, r.1, r.2, false⟩) ∧ ∀ r ∈ fd17.joins, E.ld r.2.lid = some ⟨17, r.1, r.2, true⟩ :=
  ⟨FdOk.of Go.Proofs.Try.func17 (by kernel_rfl), by kernel_rfl, fun r hr => absurd hr (by simp [fd17]), fun r hr => absurd hr (by simp [fd17])⟩
theorem fa38 : FdOk Go.Proofs.Try.prog fd38 ∧ E.ld 38 = none ∧ (∀ r ∈ fd38.loops, E.ld r.2.lid = some ⟨38, r.1, r.2, false⟩) ∧ ∀ r ∈ fd38.joins, E.ld r.2.lid = some ⟨38, r.1, r.2, true⟩ :=
  ⟨FdOk.of Go.Proofs.Try.func38 (by kernel_rfl), by kernel_rfl, fun r hr => by
    simp only [fd38, List.mem_cons, List.not_mem_nil, or_false] at hr
    subst hr; kernel_rfl, fun r hr => absurd hr (by simp [fd38])⟩
theorem fa14 : FdOk Go.Proofs.Try.prog fd14 ∧ E.ld 14 = none ∧ (∀ r ∈ fd14.loops, E.ld r.2.lid = some ⟨14, r.1, r.2, false⟩) ∧ ∀ r ∈ fd14.joins, E.ld r.2.lid = some ⟨14, r.1, r.2, true⟩ :=
  ⟨FdOk.of Go.Proofs.Try.func14 (by kernel_rfl), by kernel_rfl, fun r hr => by
    simp only [fd14, List.mem_cons, List.not_mem_nil, or_false] at hr
    subst hr; kernel_rfl, fun r hr => absurd hr (by simp [fd14])⟩
theorem fa19 : FdOk Go.Proofs.Try.prog fd19 ∧ E.ld 19 = none ∧ (∀ r ∈ fd19.loops, E.ld r.2.lid = some ⟨19, r.1, r.2, false⟩) ∧ ∀ r ∈ fd19.joins, E.ld r.2.lid = some ⟨19, r.1, r.2, true⟩ :=
  ⟨FdOk.of Go.Proofs.Try.func19 (by kernel_rfl), by kernel_rfl, fun r hr => absurd hr (by simp [fd19]), fun r hr => absurd hr (by simp [fd19])⟩
theorem fa40 : FdOk Go.Proofs.Try.prog fd40 ∧ E.ld 40 = none ∧ (∀ r ∈ fd40.loops, E.ld r.2.lid = some ⟨40, r.1, r.2, false⟩) ∧ ∀ r ∈ fd40.joins, E.ld r.2.lid = some ⟨40, r.1, r.2, true⟩ :=
  ⟨FdOk.of Go.Proofs.Try.func40 (by kernel_rfl), by kernel_rfl, fun r hr => by
    simp only [fd40, List.mem_cons, List.not_mem_nil, or_false] at hr
    subst hr; kernel_rfl, fun r hr => absurd hr (by simp [fd40])⟩
theorem fa76 : FdOk Go.Proofs.Try.prog fd76 ∧ E.ld 76 = none ∧ (∀ r ∈ fd76.loops, E.ld r.2.lid = some ⟨76, r.1, r.2, false⟩) ∧ ∀ r ∈ fd76.joins, E.ld r.2.lid = some ⟨76, r.1, r.2, true⟩ :=
  ⟨FdOk.of Go.Proofs.Try.func76 (by kernel_rfl), by kernel_rfl, fun r hr => absurd hr (by simp [fd76]), fun r hr => absurd hr (by simp [fd76])⟩
theorem fa50 : FdOk Go.Proofs.Try.prog fd50 ∧ E.ld 50 = none ∧ (∀ r ∈ fd50.loops, E.ld r.2.lid = some ⟨50, r.1, r.2, false⟩) ∧ ∀ r ∈ fd50.joins, E.ld r.2.lid = some ⟨50, r.1, r.2, true⟩ :=
  ⟨FdOk.of Go.Proofs.Try.func50 (by kernel_rfl), by kernel_rfl, fun r hr => by
    simp only [fd50, List.mem_cons, List.not_mem_nil, or_false] at hr
    subst hr; kernel_rfl, fun r hr => absurd hr (by simp [fd50])⟩
theorem fa81 : FdOk Go.Proofs.Try.prog fd81 ∧ E.ld 81 = none ∧ (∀ r ∈ fd81.loops, E.ld r.2.lid = some ⟨81, r.1, r.2, false⟩) ∧ ∀ r ∈ fd81.joins, E.ld r.2.lid = some ⟨81, r.1, r.2, true⟩ :=
  ⟨FdOk.of Go.Proofs.Try.func81 (by kernel_rfl), by kernel_rfl, fun r hr => by
    simp only [fd81, List.mem_cons, List.not_mem_nil, or_false] at hr
    subst hr; kernel_rfl, fun r hr => absurd hr (by simp [fd81])⟩
theorem fa78 : FdOk Go.Proofs.Try.prog fd78 ∧ E.ld 78 = none ∧ (∀ r ∈ fd78.loops, E.ld r.2.lid = some ⟨78, r.1, r.2, false⟩) ∧ ∀ r ∈ fd78.joins, E.ld r.2.lid = some ⟨78, r.1, r.2, true⟩ :=
  ⟨FdOk.of Go.Proofs.Try.func78 (by kernel_rfl), by kernel_rfl, fun r hr => absurd hr (by simp [fd78]), fun r hr => absurd hr (by simp [fd78])⟩
theorem fa55 : FdOk Go.Proofs.Try.prog fd55 ∧ E.ld 55 = none ∧ (∀ r ∈ fd55.loops, E.ld r.2.lid = some ⟨55, r.1, r.2, false⟩) ∧ ∀ r ∈ fd55.joins, E.ld r.2.lid = some ⟨55, r.1, r.2, true⟩ :=
  ⟨FdOk.of Go.Proofs.Try.func55 (by kernel_rfl), by kernel_rfl, fun r hr => by
    simp only [fd55, List.mem_cons, List.not_mem_nil, or_false] at hr
    rcases hr with rfl | rfl <;> kernel_rfl, fun r hr => absurd hr (by simp [fd55])⟩
theorem fa60 : FdOk Go.Proofs.Try.prog fd60 ∧ E.ld 60 = none ∧ (∀ r ∈ fd60.loops, E.ld r.2.lid = some ⟨60, r.1, r.2, false⟩) ∧ ∀ r ∈ fd60.joins, E.ld r.2.lid = some ⟨60, r.1, r.2, true⟩ :=
  ⟨FdOk.of Go.Proofs.Try.func60 (by kernel_rfl), by kernel_rfl, fun r hr => absurd hr (by simp [fd60]), fun r hr => absurd hr (by simp [fd60])⟩
theorem fa57 : FdOk Go.Proofs.Try.prog fd57 ∧ E.ld 57 = none ∧ (∀ r ∈ fd57.loops, E.ld r.2.lid = some ⟨57, r.1, r.2, false⟩) ∧ ∀ r ∈ fd57.joins, E.ld r.2.lid = some ⟨57, r.1, r.2, true⟩ :=
  ⟨FdOk.of Go.Proofs.Try.func57 (by kernel_rfl), by kernel_rfl, fun r hr => by
    simp only [fd57, List.mem_cons, List.not_mem_nil, or_false] at hr
    subst hr; kernel_rfl, fun r hr => absurd hr (by simp [fd57])⟩
theorem fa59 : FdOk Go.Proofs.Try.prog fd59 ∧ E.ld 59 = none ∧ (∀ r ∈ fd59.loops, E.ld r.2.lid = some ⟨59, r.1, r.2, false⟩) ∧ ∀ r ∈ fd59.joins, E.ld r.2.lid = some ⟨59, r.1, r.2, true⟩ :=
  ⟨FdOk.of Go.Proofs.Try.func59 (by kernel_rfl), by kernel_rfl, fun r hr => by
    simp only [fd59, List.mem_cons, List.not_mem_nil, or_false] at hr
    subst hr; kernel_rfl, fun r hr => absurd hr (by simp [fd59])⟩
theorem fa51 : FdOk Go.Proofs.Try.prog fd51 ∧ E.ld 51 = none ∧ (∀ r ∈ fd51.loops, E.ld r.2.lid = some ⟨51, r.1, r.2, false⟩) ∧ ∀ r ∈ fd51.joins, E.ld r.2.lid = some ⟨51, r.1, r.2, true⟩ :=
  ⟨FdOk.of Go.Proofs.Try.func51 (by kernel_rfl), by kernel_rfl, fun r hr => by
    simp only [fd51, List.mem_cons, List.not_mem_nil, or_false] at hr
    rcases hr with rfl | rfl <;> kernel_rfl, fun r hr => absurd hr (by simp [fd51])⟩
theorem fa62 : FdOk Go.Proofs.Try.prog fd62 ∧ E.ld 62 = none ∧ (∀ r ∈ fd62.loops, E.ld r.2.lid = some ⟨62, r.1, r.2, false⟩) ∧ ∀ r ∈ fd62.joins, E.ld r.2.lid = some ⟨62, r.1, r.2, true⟩ :=
  ⟨FdOk.of Go.Proofs.Try.func62 (by kernel_rfl), by kernel_rfl, fun r hr => absurd hr (by simp [fd62]), fun r hr => absurd hr (by simp [fd62])⟩
theorem fa64 : FdOk Go.Proofs.Try.prog fd64 ∧ E.ld 64 = none ∧ (∀ r ∈ fd64.loops, E.ld r.2.lid = some ⟨64, r.1, r.2, false⟩) ∧ ∀ r ∈ fd64.joins, E.ld r.2.lid = some ⟨64, r.1, r.2, true⟩ :=
  ⟨FdOk.of Go.Proofs.Try.func64 (by kernel_rfl), by kernel_rfl, fun r hr => absurd hr (by simp [fd64]), fun r hr => absurd hr (by simp [fd64])⟩
theorem fa39 : FdOk Go.Proofs.Try.prog fd39 ∧ E.ld 39 = none ∧ (∀ r ∈ fd39.loops, E.ld r.2.lid = some ⟨39, r.1, r.2, false⟩) ∧ ∀ r ∈ fd39.joins, E.ld r.2.lid = some ⟨39, r.1, r.2, true⟩ :=
  ⟨FdOk.of Go.Proofs.Try.func39 (by kernel_rfl), by kernel_rfl, fun r hr => by
    simp only [fd39, List.mem_cons, List.not_mem_nil, or_false] at hr
    rcases hr with rfl | rfl | rfl | rfl | rfl <;> kernel_rfl, fun r hr => absurd hr (by simp [fd39])⟩
theorem fa77 : FdOk Go.Proofs.Try.prog fd77 ∧ E.ld 77 = none ∧ (∀ r ∈ fd77.loops, E.ld r.2.lid = some ⟨77, r.1, r.2, false⟩) ∧ ∀ r ∈ fd77.joins, E.ld r.2.lid = some ⟨77, r.1, r.2, true⟩ :=
  ⟨FdOk.of Go.Proofs.Try.func77 (by kernel_rfl), by kernel_rfl, fun r hr => absurd hr (by simp [fd77]), fun r hr => absurd hr (by simp [fd77])⟩
theorem fa47 : FdOk Go.Proofs.Try.prog fd47 ∧ E.ld 47 = none ∧ (∀ r ∈ fd47.loops, E.ld r.2.lid = some ⟨47, r.1, r.2, false⟩) ∧ ∀ r ∈ fd47.joins, E.ld r.2.lid = some ⟨47, r.1, r.2, true⟩ :=
  ⟨FdOk.of Go.Proofs.Try.func47 (by kernel_rfl), by kernel_rfl, fun r hr => absurd hr (by simp [fd47]), fun r hr => absurd hr (by simp [fd47])⟩
theorem fa79 : FdOk Go.Proofs.Try.prog fd79 ∧ E.ld 79 = none ∧ (∀ r ∈ fd79.loops, E.ld r.2.lid = some ⟨79, r.1, r.2, false⟩) ∧ ∀ r ∈ fd79.joins, E.ld r.2.lid = some ⟨79, r.1, r.2, true⟩ :=
  ⟨FdOk.of Go.Proofs.Try.func79 (by kernel_rfl), by kernel_rfl, fun r hr => absurd hr (by simp [fd79]), fun r hr => absurd hr (by simp [fd79])⟩
theorem fa52 : FdOk Go.Proofs.Try.prog fd52 ∧ E.ld 52 = none ∧ (∀ r ∈ fd52.loops, E.ld r.2.lid = some ⟨52, r.1, r.2, false⟩) ∧ ∀ r ∈ fd52.joins, E.ld r.2.lid = some ⟨52, r.1, r.2, true⟩ :=
  ⟨FdOk.of Go.Proofs.Try.func52 (by kernel_rfl), by kernel_rfl, fun r hr => by
    simp only [fd52, List.mem_cons, List.not_mem_nil, or_false] at hr
    subst hr; kernel_rfl, fun r hr => absurd hr (by simp [fd52])⟩
theorem fa67 : FdOk Go.Proofs.Try.prog fd67 ∧ E.ld 67 = none ∧ (∀ r ∈ fd67.loops, E.ld r.2.lid = some ⟨67, r.1, r.2, false⟩) ∧ ∀ r ∈ fd67.joins, E.ld r.2.lid = some ⟨67, r.1, r.2, true⟩ :=
  ⟨FdOk.of Go.Proofs.Try.func67 (by kernel_rfl), by kernel_rfl, fun r hr => absurd hr (by simp [fd67]), fun r hr => absurd hr (by simp [fd67])⟩
theorem fa10001 : FdOk Go.Proofs.Try.prog fd10001 ∧ E.ld 10001 = none ∧ (∀ r ∈ fd10001.loops, E.ld r.2.lid = some ⟨10001, r.1, r.2, false⟩) ∧ ∀ r ∈ fd10001.joins, E.ld r.2.lid = some ⟨10001, r.1, r.2, true⟩ :=
  ⟨FdOk.of Go.Proofs.Try.func82 (by kernel_rfl), by kernel_rfl, fun r hr => by
    simp only [fd10001, List.mem_cons, List.not_mem_nil, or_false] at hr
    subst hr; kernel_rfl, fun r hr => absurd hr (by simp [fd10001])⟩
theorem fa10000 : FdOk Go.Proofs.Try.prog fd10000 ∧ E.ld 10000 = none ∧ (∀ r ∈ fd10000.loops, E.ld r.2.lid = some ⟨10000, r.1, r.2, false⟩) ∧ ∀ r ∈ fd10000.joins, E.ld r.2.lid = some ⟨10000, r.1, r.2, true⟩ :=
  ⟨FdOk.of Go.Proofs.Try.func66 (by kernel_rfl), by kernel_rfl, fun r hr => absurd hr (by simp [fd10000]), fun r hr => absurd hr (by simp [fd10000])⟩
theorem fa68 : FdOk Go.Proofs.Try.prog fd68 ∧ E.ld 68 = none ∧ (∀ r ∈ fd68.loops, E.ld r.2.lid = some ⟨68, r.1, r.2, false⟩) ∧ ∀ r ∈ fd68.joins, E.ld r.2.lid = some ⟨68, r.1, r.2, true⟩ :=
  ⟨FdOk.of Go.Proofs.Try.func68 (by kernel_rfl), by kernel_rfl, fun r hr => absurd hr (by simp [fd68]), fun r hr => absurd hr (by simp [fd68])⟩
theorem fa10003 : FdOk Go.Proofs.Try.prog fd10003 ∧ E.ld 10003 = none ∧ (∀ r ∈ fd10003.loops, E.ld r.2.lid = some ⟨10003, r.1, r.2, false⟩) ∧ ∀ r ∈ fd10003.joins, E.ld r.2.lid = some ⟨10003, r.1, r.2, true⟩ :=
  ⟨FdOk.of Go.Proofs.Try.func82 (by kernel_rfl), by kernel_rfl, fun r hr => by
    simp only [fd10003, List.mem_cons, List.not_mem_nil, or_false] at hr
    subst hr; kernel_rfl, fun r hr => absurd hr (by simp [fd10003])⟩
theorem fa10002 : FdOk Go.Proofs.Try.prog fd10002 ∧ E.ld 10002 = none ∧ (∀ r ∈ fd10002.loops, E.ld r.2.lid = some ⟨10002, r.1, r.2, false⟩) ∧ ∀ r ∈ fd10002.joins, E.ld r.2.lid = some ⟨10002, r.1, r.2, true⟩ :=
  ⟨FdOk.of Go.Proofs.Try.func66 (by kernel_rfl), by kernel_rfl, fun r hr => absurd hr (by simp [fd10002]), fun r hr => absurd hr (by simp [fd10002])⟩
theorem fa72 : FdOk Go.Proofs.Try.prog fd72 ∧ E.ld 72 = none ∧ (∀ r ∈ fd72.loops, E.ld r.2.lid = some ⟨72, r.1, r.2, false⟩) ∧ ∀ r ∈ fd72.joins, E.ld r.2.lid = some ⟨72, r.1, r.2, true⟩ :=
  ⟨FdOk.of Go.Proofs.Try.func72 (by kernel_rfl), by kernel_rfl, fun r hr => by
    simp only [fd72, List.mem_cons, List.not_mem_nil, or_false] at hr
    subst hr; kernel_rfl, fun r hr => absurd hr (by simp [fd72])⟩
theorem fa73 : FdOk Go.Proofs.Try.prog fd73 ∧ E.ld 73 = none ∧ (∀ r ∈ fd73.loops, E.ld r.2.lid = some ⟨73, r.1, r.2, false⟩) ∧ ∀ r ∈ fd73.joins, E.ld r.2.lid = some ⟨73, r.1, r.2, true⟩ :=
  ⟨FdOk.of Go.Proofs.Try.func73 (by kernel_rfl), by kernel_rfl, fun r hr => absurd hr (by simp [fd73]), fun r hr => absurd hr (by simp [fd73])⟩
theorem fa10004 : FdOk Go.Proofs.Try.prog fd10004 ∧ E.ld 10004 = none ∧ (∀ r ∈ fd10004.loops, E.ld r.2.lid = some ⟨10004, r.1, r.2, false⟩) ∧ ∀ r ∈ fd10004.joins, E.ld r.2.lid = some ⟨10004, r.1, r.2, true⟩ :=
  ⟨FdOk.of Go.Proofs.Try.func71 (by kernel_rfl), by kernel_rfl, fun r hr => by
    simp only [fd10004, List.mem_cons, List.not_mem_nil, or_false] at hr
    subst hr; kernel_rfl, fun r hr => absurd hr (by simp [fd10004])⟩
theorem fa75 : FdOk Go.Proofs.Try.prog fd75 ∧ E.ld 75 = none ∧ (∀ r ∈ fd75.loops, E.ld r.2.lid = some ⟨75, r.1, r.2, false⟩) ∧ ∀ r ∈ fd75.joins, E.ld r.2.lid = some ⟨75, r.1, r.2, true⟩ :=
  ⟨FdOk.of Go.Proofs.Try.func75 (by kernel_rfl), by kernel_rfl, fun r hr => absurd hr (by simp [fd75]), fun r hr => absurd hr (by simp [fd75])⟩
theorem fa74 : FdOk Go.Proofs.Try.prog fd74 ∧ E.ld 74 = none ∧ (∀ r ∈ fd74.loops, E.ld r.2.lid = some ⟨74, r.1, r.2, false⟩) ∧ ∀ r ∈ fd74.joins, E.ld r.2.lid = some ⟨74, r.1, r.2, true⟩ :=
  ⟨FdOk.of Go.Proofs.Try.func74 (by kernel_rfl), by kernel_rfl, fun r hr => absurd hr (by simp [fd74]), fun r hr => absurd hr (by simp [fd74])⟩
theorem fa80 : FdOk Go.Proofs.Try.prog fd80 ∧ E.ld 80 = none ∧ (∀ r ∈ fd80.loops, E.ld r.2.lid = some ⟨80, r.1, r.2, false⟩) ∧ ∀ r ∈ fd80.joins, E.ld r.2.lid = some ⟨80, r.1, r.2, true⟩ :=
  ⟨FdOk.of Go.Proofs.Try.func80 (by kernel_rfl), by kernel_rfl, fun r hr => by
    simp only [fd80, List.mem_cons, List.not_mem_nil, or_false] at hr
    subst hr; kernel_rfl, fun r hr => absurd hr (by simp [fd80])⟩
theorem fa56 : FdOk Go.Proofs.Try.prog fd56 ∧ E.ld 56 = none ∧ (∀ r ∈ fd56.loops, E.ld r.2.lid = some ⟨56, r.1, r.2, false⟩) ∧ ∀ r ∈ fd56.joins, E.ld r.2.lid = some ⟨56, r.1, r.2, true⟩ :=
  ⟨FdOk.of Go.Proofs.Try.func56 (by kernel_rfl), by kernel_rfl, fun r hr => by
    simp only [fd56, List.mem_cons, List.not_mem_nil, or_false] at hr
    subst hr; kernel_rfl, fun r hr => absurd hr (by simp [fd56])⟩
theorem fa54 : FdOk Go.Proofs.Try.prog fd54 ∧ E.ld 54 = none ∧ (∀ r ∈ fd54.loops, E.ld r.2.lid = some ⟨54, r.1, r.2, false⟩) ∧ ∀ r ∈ fd54.joins, E.ld r.2.lid = some ⟨54, r.1, r.2, true⟩ :=
  ⟨FdOk.of Go.Proofs.Try.func54 (by kernel_rfl), by kernel_rfl, fun r hr => absurd hr (by simp [fd54]), fun r hr => absurd hr (by simp [fd54])⟩
theorem fa58 : FdOk Go.Proofs.Try.prog fd58 ∧ E.ld 58 = none ∧ (∀ r ∈ fd58.loops, E.ld r.2.lid = some ⟨58, r.1, r.2, false⟩) ∧ ∀ r ∈ fd58.joins, E.ld r.2.lid = some ⟨58, r.1, r.2, true⟩ :=
  ⟨FdOk.of Go.Proofs.Try.func58 (by kernel_rfl), by kernel_rfl, fun r hr => by
    simp only [fd58, List.mem_cons, List.not_mem_nil, or_false] at hr
    subst hr; kernel_rfl, fun r hr => absurd hr (by simp [fd58])⟩
theorem fa61 : FdOk Go.Proofs.Try.prog fd61 ∧ E.ld 61 = none ∧ (∀ r ∈ fd61.loops, E.ld r.2.lid = some ⟨61, r.1, r.2, false⟩) ∧ ∀ r ∈ fd61.joins, E.ld r.2.lid = some ⟨61, r.1, r.2, true⟩ :=
  ⟨FdOk.of Go.Proofs.Try.func61 (by kernel_rfl), by kernel_rfl, fun r hr => by
    simp only [fd61, List.mem_cons, List.not_mem_nil, or_false] at hr
    subst hr; kernel_rfl, fun r hr => absurd hr (by simp [fd61])⟩
theorem fa53 : FdOk Go.Proofs.Try.prog fd53 ∧ E.ld 53 = none ∧ (∀ r ∈ fd53.loops, E.ld r.2.lid = some ⟨53, r.1, r.2, false⟩) ∧ ∀ r ∈ fd53.joins, E.ld r.2.lid = some ⟨53, r.1, r.2, true⟩ :=
  ⟨FdOk.of Go.Proofs.Try.func53 (by kernel_rfl), by kernel_rfl, fun r hr => by
    simp only [fd53, List.mem_cons, List.not_mem_nil, or_false] at hr
    subst hr; kernel_rfl, fun r hr => absurd hr (by simp [fd53])⟩
theorem fa63 : FdOk Go.Proofs.Try.prog fd63 ∧ E.ld 63 = none ∧ (∀ r ∈ fd63.loops, E.ld r.2.lid = some ⟨63, r.1, r.2, false⟩) ∧ ∀ r ∈ fd63.joins, E.ld r.2.lid = some ⟨63, r.1, r.2, true⟩ :=
  ⟨FdOk.of Go.Proofs.Try.func63 (by kernel_rfl), by kernel_rfl, fun r hr => absurd hr (by simp [fd63]), fun r hr => absurd hr (by simp [fd63])⟩
theorem fa65 : FdOk Go.Proofs.Try.prog fd65 ∧ E.ld 65 = none ∧ (∀ r ∈ fd65.loops, E.ld r.2.lid = some ⟨65, r.1, r.2, false⟩) ∧ ∀ r ∈ fd65.joins, E.ld r.2.lid = some ⟨65, r.1, r.2, true⟩ :=
  ⟨FdOk.of Go.Proofs.Try.func65 (by kernel_rfl), by kernel_rfl, fun r hr => absurd hr (by simp [fd65]), fun r hr => absurd hr (by simp [fd65])⟩
theorem fa41 : FdOk Go.Proofs.Try.prog fd41 ∧ E.ld 41 = none ∧ (∀ r ∈ fd41.loops, E.ld r.2.lid = some ⟨41, r.1, r.2, false⟩) ∧ ∀ r ∈ fd41.joins, E.ld r.2.lid = some ⟨41, r.1, r.2, true⟩ :=
  ⟨FdOk.of Go.Proofs.Try.func41 (by kernel_rfl), by kernel_rfl, fun r hr => by
    simp only [fd41, List.mem_cons, List.not_mem_nil, or_false] at hr
    rcases hr with rfl | rfl | rfl <;> kernel_rfl, fun r hr => absurd hr (by simp [fd41])⟩
theorem fa16 : FdOk Go.Proofs.Try.prog fd16 ∧ E.ld 16 = none ∧ (∀ r ∈ fd16.loops, E.ld r.2.lid = some ⟨16, r.1, r.2, false⟩) ∧ ∀ r ∈ fd16.joins, E.ld r.2.lid = some ⟨16, r.1, r.2, true⟩ :=
  ⟨FdOk.of Go.Proofs.Try.func16 (by kernel_rfl), by kernel_rfl, fun r hr => by
    simp only [fd16, List.mem_cons, List.not_mem_nil, or_false] at hr
    subst hr; kernel_rfl, fun r hr => absurd hr (by simp [fd16])⟩
theorem fa21 : FdOk Go.Proofs.Try.prog fd21 ∧ E.ld 21 = none ∧ (∀ r ∈ fd21.loops, E.ld r.2.lid = some ⟨21, r.1, r.2, false⟩) ∧ ∀ r ∈ fd21.joins, E.ld r.2.lid = some ⟨21, r.1, r.2, true⟩ :=
  ⟨FdOk.of Go.Proofs.Try.func21 (by kernel_rfl), by kernel_rfl, fun r hr => absurd hr (by simp [fd21]), fun r hr => absurd hr (by simp [fd21])⟩
theorem fa42 : FdOk Go.Proofs.Try.prog fd42 ∧ E.ld 42 = none ∧ (∀ r ∈ fd42.loops, E.ld r.2.lid = some ⟨42, r.1, r.2, false⟩) ∧ ∀ r ∈ fd42.joins, E.ld r.2.lid = some ⟨42, r.1, r.2, true⟩ :=
  ⟨FdOk.of Go.Proofs.Try.func42 (by kernel_rfl), by kernel_rfl, fun r hr => by
    simp only [fd42, List.mem_cons, List.not_mem_nil, or_false] at hr
    subst hr; kernel_rfl, fun r hr => absurd hr (by simp [fd42])⟩
theorem fa25 : FdOk Go.Proofs.Try.prog fd25 ∧ E.ld 25 = none ∧ (∀ r ∈ fd25.loops, E.ld r.2.lid = some ⟨25, r.1, r.2, false⟩) ∧ ∀ r ∈ fd25.joins, E.ld r.2.lid = some ⟨25, r.1, r.2, true⟩ :=
  ⟨FdOk.of Go.Proofs.Try.func25 (by kernel_rfl), by kernel_rfl, fun r hr => by
    simp only [fd25, List.mem_cons, List.not_mem_nil, or_false] at hr
    subst hr; kernel_rfl, fun r hr => absurd hr (by simp [fd25])⟩
theorem fa43 : FdOk Go.Proofs.Try.prog fd43 ∧ E.ld 43 = none ∧ (∀ r ∈ fd43.loops, E.ld r.2.lid = some ⟨43, r.1, r.2, false⟩) ∧ ∀ r ∈ fd43.joins, E.ld r.2.lid = some ⟨43, r.1, r.2, true⟩ :=
  ⟨FdOk.of Go.Proofs.Try.func43 (by kernel_rfl), by kernel_rfl, fun r hr => by
    simp only [fd43, List.mem_cons, List.not_mem_nil, or_false] at hr
    subst hr; kernel_rfl, fun r hr => absurd hr (by simp [fd43])⟩
theorem fa26 : FdOk Go.Proofs.Try.prog fd26 ∧ E.ld 26 = none ∧ (∀ r ∈ fd26.loops, E.ld r.2.lid = some ⟨26, r.1, r.2, false⟩) ∧ ∀ r ∈ fd26.joins, E.ld r.2.lid = some ⟨26, r.1, r.2, true⟩ :=
  ⟨FdOk.of Go.Proofs.Try.func26 (by kernel_rfl), by kernel_rfl, fun r hr => by
    simp only [fd26, List.mem_cons, List.not_mem_nil, or_false] at hr
    subst hr; kernel_rfl, fun r hr => absurd hr (by simp [fd26])⟩
theorem fa11 : FdOk Go.Proofs.Try.prog fd11 ∧ E.ld 11 = none ∧ (∀ r ∈ fd11.loops, E.ld r.2.lid = some ⟨11, r.1, r.2, false⟩) ∧ ∀ r ∈ fd11.joins, E.ld r.2.lid = some ⟨11, r.1, r.2, true⟩ :=
  ⟨FdOk.of Go.Proofs.Try.func11 (by kernel_rfl), by kernel_rfl, fun r hr => absurd hr (by simp [fd11]), fun r hr => absurd hr (by simp [fd11])⟩
theorem envOk : EnvOk Go.Proofs.Try.prog E := EnvOk.of (envTy_of rfl tyOk strOk) (by kernel_rfl) rfl (by
  simp only [fdTab, List.forall_mem_cons]
  exact ⟨fa49, fa17, fa38, fa14, fa19, fa40, fa76, fa50, fa81, fa78, fa55, fa60, fa57, fa59, fa51, fa62, fa64, fa39, fa77, fa47, fa79, fa52, fa67, fa10001, fa10000, fa68, fa10003, fa10002, fa72, fa73, fa10004, fa75, fa74, fa80, fa56, fa54, fa58, fa61, fa53, fa63, fa65, fa41, fa16, fa21, fa42, fa25, fa43, fa26, fa11, fun q hq => absurd hq (by simp)⟩) rfl (by
  simp only [extTab, List.forall_mem_cons]
  exact fun q hq => absurd hq (by simp))
end Go.Ev.Ytffepojldjodcaa
