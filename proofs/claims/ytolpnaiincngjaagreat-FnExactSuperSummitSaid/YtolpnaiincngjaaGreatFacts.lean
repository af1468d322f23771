/- The evaluator's tables are the program's. -/
import Derived.KernelRfl
import Derived.Test.YtolpnaiincngjaaGreatEnv
import Derived.Test.YtolpnaiincngjaaGreatV5
set_option linter.unusedVariables false
namespace Go.Ev.YtolpnaiincngjaaGreat
open Go.Ev
theorem strOk : E.str.all (isStrB Go.Proofs.Tryz.prog) = true := by kernel_rfl
theorem tyOk : tyTab.all (fun q => tyOkB Go.Proofs.Tryz.prog q.2 q.1) = true := by kernel_rfl
theorem fa19 : FdOk Go.Proofs.Tryz.prog fd19 ∧ E.ld 19 = none ∧ (∀ r ∈ fd19.loops, E.ld r.2.lid = some ⟨19, r.1, r.2, false⟩) ∧ ∀ r ∈ fd19.joins, E.ld r.2.lid = some ⟨19, r.1, r.2, true⟩ :=
  ⟨FdOk.of Go.Proofs.Tryz.func19 (by kernel_rfl), by kernel_rfl, fun r hr => absurd hr (by simp [fd19]), fun r hr => absurd hr (by simp [fd19])⟩
theorem fa6 : FdOk Go.Proofs.Tryz.prog fd6 ∧ E.ld 6 = none ∧ (∀ r ∈ fd6.loops, E.ld r.2.lid = some ⟨6, r.1, r.2, false⟩) ∧ ∀ r ∈ fd6.joins, E.ld r.2.lid = some ⟨6, r.1, r.2, true⟩ :=
  ⟨FdOk.of Go.Proofs.Tryz.func6 (by kernel_rfl), by kernel_rfl, fun r hr => absurd hr (by simp [fd6]), fun r hr => absurd hr (by simp [fd6])⟩
theorem fa45 : FdOk Go.Proofs.Tryz.prog fd45 ∧ E.ld 45 = none ∧ (∀ r ∈ fd45.loops, E.ld r.2.lid = some ⟨45, r.1, r.2, false⟩) ∧ ∀ r ∈ fd45.joins, E.ld r.2.lid = some ⟨45, r.1, r.2, true⟩ :=
  ⟨FdOk.of Go.Proofs.Tryz.func45 (by kernel_rfl), by kernel_rfl, fun r hr => by
    simp only [fd45, List.mem_cons, List.not_mem_nil, or_false] at hr
    subst hr; kernel_rfl, fun r hr => absurd hr (by simp [fd45])⟩
theorem fa22 : FdOk Go.Proofs.Tryz.prog fd22 ∧ E.ld 22 = none ∧ (∀ r ∈ fd22.loops, E.ld r.2.lid = some ⟨22, r.1, r.2, false⟩) ∧ ∀ r ∈ fd22.joins, E.ld r.2.lid = some ⟨22, r.1, r.2, true⟩ :=
  ⟨FdOk.of Go.Proofs.Tryz.func22 (by kernel_rfl), by kernel_rfl, fun r hr => by
    simp only [fd22, List.mem_cons, List.not_mem_nil, or_false] at hr
    subst hr; kernel_rfl, fun r hr => absurd hr (by simp [fd22])⟩
theorem fa8 : FdOk Go.Proofs.Tryz.prog fd8 ∧ E.ld 8 = none ∧ (∀ r ∈ fd8.loops, E.ld r.2.lid = some ⟨8, r.1, r.2, false⟩) ∧ ∀ r ∈ fd8.joins, E.ld r.2.lid = some ⟨8, r.1, r.2, true⟩ :=
  ⟨FdOk.of Go.Proofs.Tryz.func8 (by kernel_rfl), by kernel_rfl, fun r hr => absurd hr (by simp [fd8]), fun r hr => absurd hr (by simp [fd8])⟩
theorem fa68 : FdOk Go.Proofs.Tryz.prog fd68 ∧ E.ld 68 = none ∧ (∀ r ∈ fd68.loops, E.ld r.2.lid = some ⟨68, r.1, r.2, false⟩) ∧ ∀ r ∈ fd68.joins, E.ld r.2.lid = some ⟨68, r.1, r.2, true⟩ :=
  ⟨FdOk.of Go.Proofs.Tryz.func68 (by kernel_rfl), by kernel_rfl, fun r hr => absurd hr (by simp [fd68]), fun r hr => absurd hr (by simp [fd68])⟩
theorem fa80 : FdOk Go.Proofs.Tryz.prog fd80 ∧ E.ld 80 = none ∧ (∀ r ∈ fd80.loops, E.ld r.2.lid = some ⟨80, r.1, r.2, false⟩) ∧ ∀ r ∈ fd80.joins, E.ld r.2.lid = some ⟨80, r.1, r.2, true⟩ :=
  ⟨FdOk.of Go.Proofs.Tryz.func80 (by kernel_rfl), by kernel_rfl, fun r hr => by
    simp only [fd80, List.mem_cons, List.not_mem_nil, or_false] at hr
    subst hr; kernel_rfl, fun r hr => absurd hr (by simp [fd80])⟩
theorem fa53 : FdOk Go.Proofs.Tryz.prog fd53 ∧ E.ld 53 = none ∧ (∀ r ∈ fd53.loops, E.ld r.2.lid = some ⟨53, r.1, r.2, false⟩) ∧ ∀ r ∈ fd53.joins, E.ld r.2.lid = some ⟨53, r.1, r.2, true⟩ :=
  ⟨FdOk.of Go.Proofs.Tryz.func53 (by kernel_rfl), by kernel_rfl, fun r hr => by
    simp only [fd53, List.mem_cons, List.not_mem_nil, or_false] at hr
    subst hr; kernel_rfl, fun r hr => absurd hr (by simp [fd53])⟩
theorem fa76 : FdOk Go.Proofs.Tryz.prog fd76 ∧ E.ld 76 = none ∧ (∀ r ∈ fd76.loops, E.ld r.2.lid = some ⟨76, r.1, r.2, false⟩) ∧ ∀ r ∈ fd76.joins, E.ld r.2.lid = some ⟨76, r.1, r.2, true⟩ :=
  ⟨FdOk.of Go.Proofs.Tryz.func76 (by kernel_rfl), by kernel_rfl, fun r hr => by
    simp only [fd76, List.mem_cons, List.not_mem_nil, or_false] at hr
    subst hr; kernel_rfl, fun r hr => absurd hr (by simp [fd76])⟩
theorem fa98 : FdOk Go.Proofs.Tryz.prog fd98 ∧ E.ld 98 = none ∧ (∀ r ∈ fd98.loops, E.ld r.2.lid = some ⟨98, r.1, r.2, false⟩) ∧ ∀ r ∈ fd98.joins, E.ld r.2.lid = some ⟨98, r.1, r.2, true⟩ :=
  ⟨FdOk.of Go.Proofs.Tryz.func98 (by kernel_rfl), by kernel_rfl, fun r hr => by
    simp only [fd98, List.mem_cons, List.not_mem_nil, or_false] at hr
    subst hr; kernel_rfl, fun r hr => absurd hr (by simp [fd98])⟩
theorem fa81 : FdOk Go.Proofs.Tryz.prog fd81 ∧ E.ld 81 = none ∧ (∀ r ∈ fd81.loops, E.ld r.2.lid = some ⟨81, r.1, r.2, false⟩) ∧ ∀ r ∈ fd81.joins, E.ld r.2.lid = some ⟨81, r.1, r.2, true⟩ :=
  ⟨FdOk.of Go.Proofs.Tryz.func81 (by kernel_rfl), by kernel_rfl, fun r hr => by
    simp only [fd81, List.mem_cons, List.not_mem_nil, or_false] at hr
    subst hr; kernel_rfl, fun r hr => absurd hr (by simp [fd81])⟩
theorem fa50 : FdOk Go.Proofs.Tryz.prog fd50 ∧ E.ld 50 = none ∧ (∀ r ∈ fd50.loops, E.ld r.2.lid = some ⟨50, r.1, r.2, false⟩) ∧ ∀ r ∈ fd50.joins, E.ld r.2.lid = some ⟨50, r.1, r.2, true⟩ :=
  ⟨FdOk.of Go.Proofs.Tryz.func50 (by kernel_rfl), by kernel_rfl, fun r hr => by
    simp only [fd50, List.mem_cons, List.not_mem_nil, or_false] at hr
    subst hr; kernel_rfl, fun r hr => absurd hr (by simp [fd50])⟩
theorem fa39 : FdOk Go.Proofs.Tryz.prog fd39 ∧ E.ld 39 = none ∧ (∀ r ∈ fd39.loops, E.ld r.2.lid = some ⟨39, r.1, r.2, false⟩) ∧ ∀ r ∈ fd39.joins, E.ld r.2.lid = some ⟨39, r.1, r.2, true⟩ :=
  ⟨FdOk.of Go.Proofs.Tryz.func39 (by kernel_rfl), by kernel_rfl, fun r hr => absurd hr (by simp [fd39]), fun r hr => absurd hr (by simp [fd39])⟩
theorem fa97 : FdOk Go.Proofs.Tryz.prog fd97 ∧ E.ld 97 = none ∧ (∀ r ∈ fd97.loops, E.ld r.2.lid = some ⟨97, r.1, r.2, false⟩) ∧ ∀ r ∈ fd97.joins, E.ld r.2.lid = some ⟨97, r.1, r.2, true⟩ :=
  ⟨FdOk.of Go.Proofs.Tryz.func97 (by kernel_rfl), by kernel_rfl, fun r hr => by
    simp only [fd97, List.mem_cons, List.not_mem_nil, or_false] at hr
    subst hr; kernel_rfl, fun r hr => absurd hr (by simp [fd97])⟩
theorem fa77 : FdOk Go.Proofs.Tryz.prog fd77 ∧ E.ld 77 = none ∧ (∀ r ∈ fd77.loops, E.ld r.2.lid = some ⟨77, r.1, r.2, false⟩) ∧ ∀ r ∈ fd77.joins, E.ld r.2.lid = some ⟨77, r.1, r.2, true⟩ :=
  ⟨FdOk.of Go.Proofs.Tryz.func77 (by kernel_rfl), by kernel_rfl, fun r hr => absurd hr (by simp [fd77]), fun r hr => absurd hr (by simp [fd77])⟩
theorem fa44 : FdOk Go.Proofs.Tryz.prog fd44 ∧ E.ld 44 = none ∧ (∀ r ∈ fd44.loops, E.ld r.2.lid = some ⟨44, r.1, r.2, false⟩) ∧ ∀ r ∈ fd44.joins, E.ld r.2.lid = some ⟨44, r.1, r.2, true⟩ :=
  ⟨FdOk.of Go.Proofs.Tryz.func44 (by kernel_rfl), by kernel_rfl, fun r hr => absurd hr (by simp [fd44]), fun r hr => absurd hr (by simp [fd44])⟩
theorem fa96 : FdOk Go.Proofs.Tryz.prog fd96 ∧ E.ld 96 = none ∧ (∀ r ∈ fd96.loops, E.ld r.2.lid = some ⟨96, r.1, r.2, false⟩) ∧ ∀ r ∈ fd96.joins, E.ld r.2.lid = some ⟨96, r.1, r.2, true⟩ :=
  ⟨FdOk.of Go.Proofs.Tryz.func96 (by kernel_rfl), by kernel_rfl, fun r hr => absurd hr (by simp [fd96]), fun r hr => absurd hr (by simp [fd96])⟩
theorem fa118 : FdOk Go.Proofs.Tryz.prog fd118 ∧ E.ld 118 = none ∧ (∀ r ∈ fd118.loops, E.ld r.2.lid = some ⟨118, r.1, r.2, false⟩) ∧ ∀ r ∈ fd118.joins, E.ld r.2.lid = some ⟨118, r.1, r.2, true⟩ :=
  ⟨FdOk.of Go.Proofs.Tryz.func118 (by kernel_rfl), by kernel_rfl, fun r hr => absurd hr (by simp [fd118]), fun r hr => absurd hr (by simp [fd118])⟩
theorem fa95 : FdOk Go.Proofs.Tryz.prog fd95 ∧ E.ld 95 = none ∧ (∀ r ∈ fd95.loops, E.ld r.2.lid = some ⟨95, r.1, r.2, false⟩) ∧ ∀ r ∈ fd95.joins, E.ld r.2.lid = some ⟨95, r.1, r.2, true⟩ :=
  ⟨FdOk.of Go.Proofs.Tryz.func95 (by kernel_rfl), by kernel_rfl, fun r hr => by
    simp only [fd95, List.mem_cons, List.not_mem_nil, or_false] at hr
    subst hr; kernel_rfl, fun r hr => absurd hr (by simp [fd95])⟩
theorem fa75 : FdOk Go.Proofs.Tryz.prog fd75 ∧ E.ld 75 = none ∧ (∀ r ∈ fd75.loops, E.ld r.2.lid = some ⟨75, r.1, r.2, false⟩) ∧ ∀ r ∈ fd75.joins, E.ld r.2.lid = some ⟨75, r.1, r.2, true⟩ :=
  ⟨FdOk.of Go.Proofs.Tryz.func75 (by kernel_rfl), by kernel_rfl, fun r hr => by
    simp only [fd75, List.mem_cons, List.not_mem_nil, or_false] at hr
    rcases hr with rfl | rfl <;> kernel_rfl, fun r hr => absurd hr (by simp [fd75])⟩
theorem fa43 : FdOk Go.Proofs.Tryz.prog fd43 ∧ E.ld 43 = none ∧ (∀ r ∈ fd43.loops, E.ld r.2.lid = some ⟨43, r.1, r.2, false⟩) ∧ ∀ r ∈ fd43.joins, E.ld r.2.lid = some ⟨43, r.1, r.2, true⟩ :=
  ⟨FdOk.of Go.Proofs.Tryz.func43 (by kernel_rfl), by kernel_rfl, fun r hr => by
    simp only [fd43, List.mem_cons, List.not_mem_nil, or_false] at hr
    rcases hr with rfl | rfl <;> kernel_rfl, fun r hr => absurd hr (by simp [fd43])⟩
theorem fa20 : FdOk Go.Proofs.Tryz.prog fd20 ∧ E.ld 20 = none ∧ (∀ r ∈ fd20.loops, E.ld r.2.lid = some ⟨20, r.1, r.2, false⟩) ∧ ∀ r ∈ fd20.joins, E.ld r.2.lid = some ⟨20, r.1, r.2, true⟩ :=
  ⟨FdOk.of Go.Proofs.Tryz.func20 (by kernel_rfl), by kernel_rfl, fun r hr => absurd hr (by simp [fd20]), fun r hr => absurd hr (by simp [fd20])⟩
theorem fa51 : FdOk Go.Proofs.Tryz.prog fd51 ∧ E.ld 51 = none ∧ (∀ r ∈ fd51.loops, E.ld r.2.lid = some ⟨51, r.1, r.2, false⟩) ∧ ∀ r ∈ fd51.joins, E.ld r.2.lid = some ⟨51, r.1, r.2, true⟩ :=
  ⟨FdOk.of Go.Proofs.Tryz.func51 (by kernel_rfl), by kernel_rfl, fun r hr => absurd hr (by simp [fd51]), fun r hr => absurd hr (by simp [fd51])⟩
theorem fa30 : FdOk Go.Proofs.Tryz.prog fd30 ∧ E.ld 30 = none ∧ (∀ r ∈ fd30.loops, E.ld r.2.lid = some ⟨30, r.1, r.2, false⟩) ∧ ∀ r ∈ fd30.joins, E.ld r.2.lid = some ⟨30, r.1, r.2, true⟩ :=
  ⟨FdOk.of Go.Proofs.Tryz.func30 (by kernel_rfl), by kernel_rfl, fun r hr => by
    simp only [fd30, List.mem_cons, List.not_mem_nil, or_false] at hr
    rcases hr with rfl | rfl | rfl <;> kernel_rfl, fun r hr => absurd hr (by simp [fd30])⟩
theorem fa52 : FdOk Go.Proofs.Tryz.prog fd52 ∧ E.ld 52 = none ∧ (∀ r ∈ fd52.loops, E.ld r.2.lid = some ⟨52, r.1, r.2, false⟩) ∧ ∀ r ∈ fd52.joins, E.ld r.2.lid = some ⟨52, r.1, r.2, true⟩ :=
  ⟨FdOk.of Go.Proofs.Tryz.func52 (by kernel_rfl), by kernel_rfl, fun r hr => by
    simp only [fd52, List.mem_cons, List.not_mem_nil, or_false] at hr
    subst hr; kernel_rfl, fun r hr => absurd hr (by simp [fd52])⟩
theorem fa103 : FdOk Go.Proofs.Tryz.prog fd103 ∧ E.ld 103 = none ∧ (∀ r ∈ fd103.loops, E.ld r.2.lid = some ⟨103, r.1, r.2, false⟩) ∧ ∀ r ∈ fd103.joins, E.ld r.2.lid = some ⟨103, r.1, r.2, true⟩ :=
  ⟨FdOk.of Go.Proofs.Tryz.func103 (by kernel_rfl), by kernel_rfl, fun r hr => absurd hr (by simp [fd103]), fun r hr => absurd hr (by simp [fd103])⟩
theorem fa83 : FdOk Go.Proofs.Tryz.prog fd83 ∧ E.ld 83 = none ∧ (∀ r ∈ fd83.loops, E.ld r.2.lid = some ⟨83, r.1, r.2, false⟩) ∧ ∀ r ∈ fd83.joins, E.ld r.2.lid = some ⟨83, r.1, r.2, true⟩ :=
  ⟨FdOk.of Go.Proofs.Tryz.func83 (by kernel_rfl), by kernel_rfl, fun r hr => absurd hr (by simp [fd83]), fun r hr => absurd hr (by simp [fd83])⟩
theorem fa102 : FdOk Go.Proofs.Tryz.prog fd102 ∧ E.ld 102 = none ∧ (∀ r ∈ fd102.loops, E.ld r.2.lid = some ⟨102, r.1, r.2, false⟩) ∧ ∀ r ∈ fd102.joins, E.ld r.2.lid = some ⟨102, r.1, r.2, true⟩ :=
  ⟨FdOk.of Go.Proofs.Tryz.func102 (by kernel_rfl), by kernel_rfl, fun r hr => by
    simp only [fd102, List.mem_cons, List.not_mem_nil, or_false] at hr
    subst hr; kernel_rfl, fun r hr => absurd hr (by simp [fd102])⟩
theorem fa82 : FdOk Go.Proofs.Tryz.prog fd82 ∧ E.ld 82 = none ∧ (∀ r ∈ fd82.loops, E.ld r.2.lid = some ⟨82, r.1, r.2, false⟩) ∧ ∀ r ∈ fd82.joins, E.ld r.2.lid = some ⟨82, r.1, r.2, true⟩ :=
  ⟨FdOk.of Go.Proofs.Tryz.func82 (by kernel_rfl), by kernel_rfl, fun r hr => absurd hr (by simp [fd82]), fun r hr => absurd hr (by simp [fd82])⟩
theorem fa54 : FdOk Go.Proofs.Tryz.prog fd54 ∧ E.ld 54 = none ∧ (∀ r ∈ fd54.loops, E.ld r.2.lid = some ⟨54, r.1, r.2, false⟩) ∧ ∀ r ∈ fd54.joins, E.ld r.2.lid = some ⟨54, r.1, r.2, true⟩ :=
  ⟨FdOk.of Go.Proofs.Tryz.func54 (by kernel_rfl), by kernel_rfl, fun r hr => absurd hr (by simp [fd54]), fun r hr => absurd hr (by simp [fd54])⟩
theorem fa55 : FdOk Go.Proofs.Tryz.prog fd55 ∧ E.ld 55 = none ∧ (∀ r ∈ fd55.loops, E.ld r.2.lid = some ⟨55, r.1, r.2, false⟩) ∧ ∀ r ∈ fd55.joins, E.ld r.2.lid = some ⟨55, r.1, r.2, true⟩ :=
  ⟨FdOk.of Go.Proofs.Tryz.func55 (by kernel_rfl), by kernel_rfl, fun r hr => by
    simp only [fd55, List.mem_cons, List.not_mem_nil, or_false] at hr
    rcases hr with rfl | rfl <;> kernel_rfl, fun r hr => absurd hr (by simp [fd55])⟩
theorem fa21 : FdOk Go.Proofs.Tryz.prog fd21 ∧ E.ld 21 = none ∧ (∀ r ∈ fd21.loops, E.ld r.2.lid = some ⟨21, r.1, r.2, false⟩) ∧ ∀ r ∈ fd21.joins, E.ld r.2.lid = some ⟨21, r.1, r.2, true⟩ :=
  ⟨FdOk.of Go.Proofs.Tryz.func21 (by kernel_rfl), by kernel_rfl, fun r hr => by
    simp only [fd21, List.mem_cons, List.not_mem_nil, or_false] at hr
    subst hr; kernel_rfl, fun r hr => absurd hr (by simp [fd21])⟩
theorem fa32 : FdOk Go.Proofs.Tryz.prog fd32 ∧ E.ld 32 = none ∧ (∀ r ∈ fd32.loops, E.ld r.2.lid = some ⟨32, r.1, r.2, false⟩) ∧ ∀ r ∈ fd32.joins, E.ld r.2.lid = some ⟨32, r.1, r.2, true⟩ :=
  ⟨FdOk.of Go.Proofs.Tryz.func32 (by kernel_rfl), by kernel_rfl, fun r hr => by
    simp only [fd32, List.mem_cons, List.not_mem_nil, or_false] at hr
    subst hr; kernel_rfl, fun r hr => absurd hr (by simp [fd32])⟩
theorem fa31 : FdOk Go.Proofs.Tryz.prog fd31 ∧ E.ld 31 = none ∧ (∀ r ∈ fd31.loops, E.ld r.2.lid = some ⟨31, r.1, r.2, false⟩) ∧ ∀ r ∈ fd31.joins, E.ld r.2.lid = some ⟨31, r.1, r.2, true⟩ :=
  ⟨FdOk.of Go.Proofs.Tryz.func31 (by kernel_rfl), by kernel_rfl, fun r hr => by
    simp only [fd31, List.mem_cons, List.not_mem_nil, or_false] at hr
    rcases hr with rfl | rfl <;> kernel_rfl, fun r hr => absurd hr (by simp [fd31])⟩
theorem fa40 : FdOk Go.Proofs.Tryz.prog fd40 ∧ E.ld 40 = none ∧ (∀ r ∈ fd40.loops, E.ld r.2.lid = some ⟨40, r.1, r.2, false⟩) ∧ ∀ r ∈ fd40.joins, E.ld r.2.lid = some ⟨40, r.1, r.2, true⟩ :=
  ⟨FdOk.of Go.Proofs.Tryz.func40 (by kernel_rfl), by kernel_rfl, fun r hr => absurd hr (by simp [fd40]), fun r hr => absurd hr (by simp [fd40])⟩
theorem fa17 : FdOk Go.Proofs.Tryz.prog fd17 ∧ E.ld 17 = none ∧ (∀ r ∈ fd17.loops, E.ld r.2.lid = some ⟨17, r.1, r.2, false⟩) ∧ ∀ r ∈ fd17.joins, E.ld r.2.lid = some ⟨17, r.1, r.2, true⟩ :=
  ⟨FdOk.of Go.Proofs.Tryz.func17 (by kernel_rfl), by kernel_rfl, fun r hr => by
    simp only [fd17, List.mem_cons, List.not_mem_nil, or_false] at hr
    subst hr; kernel_rfl, fun r hr => absurd hr (by simp [fd17])⟩
theorem fa70 : FdOk Go.Proofs.Tryz.prog fd70 ∧ E.ld 70 = none ∧ (∀ r ∈ fd70.loops, E.ld r.2.lid = some ⟨70, r.1, r.2, false⟩) ∧ ∀ r ∈ fd70.joins, E.ld r.2.lid = some ⟨70, r.1, r.2, true⟩ :=
  ⟨FdOk.of Go.Proofs.Tryz.func70 (by kernel_rfl), by kernel_rfl, fun r hr => absurd hr (by simp [fd70]), fun r hr => absurd hr (by simp [fd70])⟩
theorem fa69 : FdOk Go.Proofs.Tryz.prog fd69 ∧ E.ld 69 = none ∧ (∀ r ∈ fd69.loops, E.ld r.2.lid = some ⟨69, r.1, r.2, false⟩) ∧ ∀ r ∈ fd69.joins, E.ld r.2.lid = some ⟨69, r.1, r.2, true⟩ :=
  ⟨FdOk.of Go.Proofs.Tryz.func69 (by kernel_rfl), by kernel_rfl, fun r hr => absurd hr (by simp [fd69]), fun r hr => absurd hr (by simp [fd69])⟩
theorem fa71 : FdOk Go.Proofs.Tryz.prog fd71 ∧ E.ld 71 = none ∧ (∀ r ∈ fd71.loops, E.ld r.2.lid = some ⟨71, r.1, r.2, false⟩) ∧ ∀ r ∈ fd71.joins, E.ld r.2.lid = some ⟨71, r.1, r.2, true⟩ :=
  ⟨FdOk.of Go.Proofs.Tryz.func71 (by kernel_rfl), by kernel_rfl, fun r hr => by
    simp only [fd71, List.mem_cons, List.not_mem_nil, or_false] at hr
    subst hr; kernel_rfl, fun r hr => absurd hr (by simp [fd71])⟩
theorem fa72 : FdOk Go.Proofs.Tryz.prog fd72 ∧ E.ld 72 = none ∧ (∀ r ∈ fd72.loops, E.ld r.2.lid = some ⟨72, r.1, r.2, false⟩) ∧ ∀ r ∈ fd72.joins, E.ld r.2.lid = some ⟨72, r.1, r.2, true⟩ :=
  ⟨FdOk.of Go.Proofs.Tryz.func72 (by kernel_rfl), by kernel_rfl, fun r hr => by
    simp only [fd72, List.mem_cons, List.not_mem_nil, or_false] at hr
    subst hr; kernel_rfl, fun r hr => absurd hr (by simp [fd72])⟩
theorem fa73 : FdOk Go.Proofs.Tryz.prog fd73 ∧ E.ld 73 = none ∧ (∀ r ∈ fd73.loops, E.ld r.2.lid = some ⟨73, r.1, r.2, false⟩) ∧ ∀ r ∈ fd73.joins, E.ld r.2.lid = some ⟨73, r.1, r.2, true⟩ :=
  ⟨FdOk.of Go.Proofs.Tryz.func73 (by kernel_rfl), by kernel_rfl, fun r hr => by
    simp only [fd73, List.mem_cons, List.not_mem_nil, or_false] at hr
    subst hr; kernel_rfl, fun r hr => absurd hr (by simp [fd73])⟩
theorem fa92 : FdOk Go.Proofs.Tryz.prog fd92 ∧ E.ld 92 = none ∧ (∀ r ∈ fd92.loops, E.ld r.2.lid = some ⟨92, r.1, r.2, false⟩) ∧ ∀ r ∈ fd92.joins, E.ld r.2.lid = some ⟨92, r.1, r.2, true⟩ :=
  ⟨FdOk.of Go.Proofs.Tryz.func92 (by kernel_rfl), by kernel_rfl, fun r hr => by
    simp only [fd92, List.mem_cons, List.not_mem_nil, or_false] at hr
    subst hr; kernel_rfl, fun r hr => absurd hr (by simp [fd92])⟩
theorem fa94 : FdOk Go.Proofs.Tryz.prog fd94 ∧ E.ld 94 = none ∧ (∀ r ∈ fd94.loops, E.ld r.2.lid = some ⟨94, r.1, r.2, false⟩) ∧ ∀ r ∈ fd94.joins, E.ld r.2.lid = some ⟨94, r.1, r.2, true⟩ :=
  ⟨FdOk.of Go.Proofs.Tryz.func94 (by kernel_rfl), by kernel_rfl, fun r hr => absurd hr (by simp [fd94]), fun r hr => absurd hr (by simp [fd94])⟩
theorem fa93 : FdOk Go.Proofs.Tryz.prog fd93 ∧ E.ld 93 = none ∧ (∀ r ∈ fd93.loops, E.ld r.2.lid = some ⟨93, r.1, r.2, false⟩) ∧ ∀ r ∈ fd93.joins, E.ld r.2.lid = some ⟨93, r.1, r.2, true⟩ :=
  ⟨FdOk.of Go.Proofs.Tryz.func93 (by kernel_rfl), by kernel_rfl, fun r hr => by
    simp only [fd93, List.mem_cons, List.not_mem_nil, or_false] at hr
    subst hr; kernel_rfl, fun r hr => absurd hr (by simp [fd93])⟩
theorem fa74 : FdOk Go.Proofs.Tryz.prog fd74 ∧ E.ld 74 = none ∧ (∀ r ∈ fd74.loops, E.ld r.2.lid = some ⟨74, r.1, r.2, false⟩) ∧ ∀ r ∈ fd74.joins, E.ld r.2.lid = some ⟨74, r.1, r.2, true⟩ :=
  ⟨FdOk.of Go.Proofs.Tryz.func74 (by kernel_rfl), by kernel_rfl, fun r hr => by
    simp only [fd74, List.mem_cons, List.not_mem_nil, or_false] at hr
    subst hr; kernel_rfl, fun r hr => absurd hr (by simp [fd74])⟩
theorem fa41 : FdOk Go.Proofs.Tryz.prog fd41 ∧ E.ld 41 = none ∧ (∀ r ∈ fd41.loops, E.ld r.2.lid = some ⟨41, r.1, r.2, false⟩) ∧ ∀ r ∈ fd41.joins, E.ld r.2.lid = some ⟨41, r.1, r.2, true⟩ :=
  ⟨FdOk.of Go.Proofs.Tryz.func41 (by kernel_rfl), by kernel_rfl, fun r hr => by
    simp only [fd41, List.mem_cons, List.not_mem_nil, or_false] at hr
    subst hr; kernel_rfl, fun r hr => absurd hr (by simp [fd41])⟩
theorem fa61 : FdOk Go.Proofs.Tryz.prog fd61 ∧ E.ld 61 = none ∧ (∀ r ∈ fd61.loops, E.ld r.2.lid = some ⟨61, r.1, r.2, false⟩) ∧ ∀ r ∈ fd61.joins, E.ld r.2.lid = some ⟨61, r.1, r.2, true⟩ :=
  ⟨FdOk.of Go.Proofs.Tryz.func61 (by kernel_rfl), by kernel_rfl, fun r hr => absurd hr (by simp [fd61]), fun r hr => absurd hr (by simp [fd61])⟩
theorem fa84 : FdOk Go.Proofs.Tryz.prog fd84 ∧ E.ld 84 = none ∧ (∀ r ∈ fd84.loops, E.ld r.2.lid = some ⟨84, r.1, r.2, false⟩) ∧ ∀ r ∈ fd84.joins, E.ld r.2.lid = some ⟨84, r.1, r.2, true⟩ :=
  ⟨FdOk.of Go.Proofs.Tryz.func84 (by kernel_rfl), by kernel_rfl, fun r hr => by
    simp only [fd84, List.mem_cons, List.not_mem_nil, or_false] at hr
    subst hr; kernel_rfl, fun r hr => absurd hr (by simp [fd84])⟩
theorem fa101 : FdOk Go.Proofs.Tryz.prog fd101 ∧ E.ld 101 = none ∧ (∀ r ∈ fd101.loops, E.ld r.2.lid = some ⟨101, r.1, r.2, false⟩) ∧ ∀ r ∈ fd101.joins, E.ld r.2.lid = some ⟨101, r.1, r.2, true⟩ :=
  ⟨FdOk.of Go.Proofs.Tryz.func101 (by kernel_rfl), by kernel_rfl, fun r hr => absurd hr (by simp [fd101]), fun r hr => absurd hr (by simp [fd101])⟩
theorem fa79 : FdOk Go.Proofs.Tryz.prog fd79 ∧ E.ld 79 = none ∧ (∀ r ∈ fd79.loops, E.ld r.2.lid = some ⟨79, r.1, r.2, false⟩) ∧ ∀ r ∈ fd79.joins, E.ld r.2.lid = some ⟨79, r.1, r.2, true⟩ :=
  ⟨FdOk.of Go.Proofs.Tryz.func79 (by kernel_rfl), by kernel_rfl, fun r hr => absurd hr (by simp [fd79]), fun r hr => absurd hr (by simp [fd79])⟩
theorem fa100 : FdOk Go.Proofs.Tryz.prog fd100 ∧ E.ld 100 = none ∧ (∀ r ∈ fd100.loops, E.ld r.2.lid = some ⟨100, r.1, r.2, false⟩) ∧ ∀ r ∈ fd100.joins, E.ld r.2.lid = some ⟨100, r.1, r.2, true⟩ :=
  ⟨FdOk.of Go.Proofs.Tryz.func100 (by kernel_rfl), by kernel_rfl, fun r hr => absurd hr (by simp [fd100]), fun r hr => absurd hr (by simp [fd100])⟩
theorem fa119 : FdOk Go.Proofs.Tryz.prog fd119 ∧ E.ld 119 = none ∧ (∀ r ∈ fd119.loops, E.ld r.2.lid = some ⟨119, r.1, r.2, false⟩) ∧ ∀ r ∈ fd119.joins, E.ld r.2.lid = some ⟨119, r.1, r.2, true⟩ :=
  ⟨FdOk.of Go.Proofs.Tryz.func119 (by kernel_rfl), by kernel_rfl, fun r hr => by
    simp only [fd119, List.mem_cons, List.not_mem_nil, or_false] at hr
    rcases hr with rfl | rfl <;> kernel_rfl, fun r hr => absurd hr (by simp [fd119])⟩
theorem fa99 : FdOk Go.Proofs.Tryz.prog fd99 ∧ E.ld 99 = none ∧ (∀ r ∈ fd99.loops, E.ld r.2.lid = some ⟨99, r.1, r.2, false⟩) ∧ ∀ r ∈ fd99.joins, E.ld r.2.lid = some ⟨99, r.1, r.2, true⟩ :=
  ⟨FdOk.of Go.Proofs.Tryz.func99 (by kernel_rfl), by kernel_rfl, fun r hr => by
    simp only [fd99, List.mem_cons, List.not_mem_nil, or_false] at hr
    rcases hr with rfl | rfl <;> kernel_rfl, fun r hr => absurd hr (by simp [fd99])⟩
theorem fa78 : FdOk Go.Proofs.Tryz.prog fd78 ∧ E.ld 78 = none ∧ (∀ r ∈ fd78.loops, E.ld r.2.lid = some ⟨78, r.1, r.2, false⟩) ∧ ∀ r ∈ fd78.joins, E.ld r.2.lid = some ⟨78, r.1, r.2, true⟩ :=
  ⟨FdOk.of Go.Proofs.Tryz.func78 (by kernel_rfl), by kernel_rfl, fun r hr => by
    simp only [fd78, List.mem_cons, List.not_mem_nil, or_false] at hr
    rcases hr with rfl | rfl | rfl <;> kernel_rfl, fun r hr => absurd hr (by simp [fd78])⟩
theorem fa47 : FdOk Go.Proofs.Tryz.prog fd47 ∧ E.ld 47 = none ∧ (∀ r ∈ fd47.loops, E.ld r.2.lid = some ⟨47, r.1, r.2, false⟩) ∧ ∀ r ∈ fd47.joins, E.ld r.2.lid = some ⟨47, r.1, r.2, true⟩ :=
  ⟨FdOk.of Go.Proofs.Tryz.func47 (by kernel_rfl), by kernel_rfl, fun r hr => absurd hr (by simp [fd47]), fun r hr => absurd hr (by simp [fd47])⟩
theorem fa57 : FdOk Go.Proofs.Tryz.prog fd57 ∧ E.ld 57 = none ∧ (∀ r ∈ fd57.loops, E.ld r.2.lid = some ⟨57, r.1, r.2, false⟩) ∧ ∀ r ∈ fd57.joins, E.ld r.2.lid = some ⟨57, r.1, r.2, true⟩ :=
  ⟨FdOk.of Go.Proofs.Tryz.func57 (by kernel_rfl), by kernel_rfl, fun r hr => absurd hr (by simp [fd57]), fun r hr => absurd hr (by simp [fd57])⟩
theorem fa10000 : FdOk Go.Proofs.Tryz.prog fd10000 ∧ E.ld 10000 = none ∧ (∀ r ∈ fd10000.loops, E.ld r.2.lid = some ⟨10000, r.1, r.2, false⟩) ∧ ∀ r ∈ fd10000.joins, E.ld r.2.lid = some ⟨10000, r.1, r.2, true⟩ :=
  ⟨FdOk.of Go.Proofs.Tryz.func56 (by kernel_rfl), by kernel_rfl, fun r hr => by
    simp only [fd10000, List.mem_cons, List.not_mem_nil, or_false] at hr
    subst hr; kernel_rfl, fun r hr => absurd hr (by simp [fd10000])⟩
theorem fa58 : FdOk Go.Proofs.Tryz.prog fd58 ∧ E.ld 58 = none ∧ (∀ r ∈ fd58.loops, E.ld r.2.lid = some ⟨58, r.1, r.2, false⟩) ∧ ∀ r ∈ fd58.joins, E.ld r.2.lid = some ⟨58, r.1, r.2, true⟩ :=
  ⟨FdOk.of Go.Proofs.Tryz.func58 (by kernel_rfl), by kernel_rfl, fun r hr => by
    simp only [fd58, List.mem_cons, List.not_mem_nil, or_false] at hr
    subst hr; kernel_rfl, fun r hr => absurd hr (by simp [fd58])⟩
theorem fa60 : FdOk Go.Proofs.Tryz.prog fd60 ∧ E.ld 60 = none ∧ (∀ r ∈ fd60.loops, E.ld r.2.lid = some ⟨60, r.1, r.2, false⟩) ∧ ∀ r ∈ fd60.joins, E.ld r.2.lid = some ⟨60, r.1, r.2, true⟩ :=
  ⟨FdOk.of Go.Proofs.Tryz.func60 (by kernel_rfl), by kernel_rfl, fun r hr => absurd hr (by simp [fd60]), fun r hr => absurd hr (by simp [fd60])⟩
theorem fa59 : FdOk Go.Proofs.Tryz.prog fd59 ∧ E.ld 59 = none ∧ (∀ r ∈ fd59.loops, E.ld r.2.lid = some ⟨59, r.1, r.2, false⟩) ∧ ∀ r ∈ fd59.joins, E.ld r.2.lid = some ⟨59, r.1, r.2, true⟩ :=
  ⟨FdOk.of Go.Proofs.Tryz.func59 (by kernel_rfl), by kernel_rfl, fun r hr => absurd hr (by simp [fd59]), fun r hr => absurd hr (by simp [fd59])⟩
theorem fa10001 : FdOk Go.Proofs.Tryz.prog fd10001 ∧ E.ld 10001 = none ∧ (∀ r ∈ fd10001.loops, E.ld r.2.lid = some ⟨10001, r.1, r.2, false⟩) ∧ ∀ r ∈ fd10001.joins, E.ld r.2.lid = some ⟨10001, r.1, r.2, true⟩ :=
  ⟨FdOk.of Go.Proofs.Tryz.func56 (by kernel_rfl), by kernel_rfl, fun r hr => by
    simp only [fd10001, List.mem_cons, List.not_mem_nil, or_false] at hr
    subst hr; kernel_rfl, fun r hr => absurd hr (by simp [fd10001])⟩
theorem fa34 : FdOk Go.Proofs.Tryz.prog fd34 ∧ E.ld 34 = none ∧ (∀ r ∈ fd34.loops, E.ld r.2.lid = some ⟨34, r.1, r.2, false⟩) ∧ ∀ r ∈ fd34.joins, E.ld r.2.lid = some ⟨34, r.1, r.2, true⟩ :=
  ⟨FdOk.of Go.Proofs.Tryz.func34 (by kernel_rfl), by kernel_rfl, fun r hr => by
    simp only [fd34, List.mem_cons, List.not_mem_nil, or_false] at hr
    subst hr; kernel_rfl, fun r hr => absurd hr (by simp [fd34])⟩
theorem fa85 : FdOk Go.Proofs.Tryz.prog fd85 ∧ E.ld 85 = none ∧ (∀ r ∈ fd85.loops, E.ld r.2.lid = some ⟨85, r.1, r.2, false⟩) ∧ ∀ r ∈ fd85.joins, E.ld r.2.lid = some ⟨85, r.1, r.2, true⟩ :=
  ⟨FdOk.of Go.Proofs.Tryz.func85 (by kernel_rfl), by kernel_rfl, fun r hr => absurd hr (by simp [fd85]), fun r hr => absurd hr (by simp [fd85])⟩
theorem fa104 : FdOk Go.Proofs.Tryz.prog fd104 ∧ E.ld 104 = none ∧ (∀ r ∈ fd104.loops, E.ld r.2.lid = some ⟨104, r.1, r.2, false⟩) ∧ ∀ r ∈ fd104.joins, E.ld r.2.lid = some ⟨104, r.1, r.2, true⟩ :=
  ⟨FdOk.of Go.Proofs.Tryz.func104 (by kernel_rfl), by kernel_rfl, fun r hr => by
    simp only [fd104, List.mem_cons, List.not_mem_nil, or_false] at hr
    subst hr; kernel_rfl, fun r hr => absurd hr (by simp [fd104])⟩
theorem fa86 : FdOk Go.Proofs.Tryz.prog fd86 ∧ E.ld 86 = none ∧ (∀ r ∈ fd86.loops, E.ld r.2.lid = some ⟨86, r.1, r.2, false⟩) ∧ ∀ r ∈ fd86.joins, E.ld r.2.lid = some ⟨86, r.1, r.2, true⟩ :=
  ⟨FdOk.of Go.Proofs.Tryz.func86 (by kernel_rfl), by kernel_rfl, fun r hr => absurd hr (by simp [fd86]), fun r hr => absurd hr (by simp [fd86])⟩
theorem fa62 : FdOk Go.Proofs.Tryz.prog fd62 ∧ E.ld 62 = none ∧ (∀ r ∈ fd62.loops, E.ld r.2.lid = some ⟨62, r.1, r.2, false⟩) ∧ ∀ r ∈ fd62.joins, E.ld r.2.lid = some ⟨62, r.1, r.2, true⟩ :=
  ⟨FdOk.of Go.Proofs.Tryz.func62 (by kernel_rfl), by kernel_rfl, fun r hr => by
    simp only [fd62, List.mem_cons, List.not_mem_nil, or_false] at hr
    rcases hr with rfl | rfl <;> kernel_rfl, fun r hr => absurd hr (by simp [fd62])⟩
theorem fa120 : FdOk Go.Proofs.Tryz.prog fd120 ∧ E.ld 120 = none ∧ (∀ r ∈ fd120.loops, E.ld r.2.lid = some ⟨120, r.1, r.2, false⟩) ∧ ∀ r ∈ fd120.joins, E.ld r.2.lid = some ⟨120, r.1, r.2, true⟩ :=
  ⟨FdOk.of Go.Proofs.Tryz.func120 (by kernel_rfl), by kernel_rfl, fun r hr => by
    simp only [fd120, List.mem_cons, List.not_mem_nil, or_false] at hr
    subst hr; kernel_rfl, fun r hr => absurd hr (by simp [fd120])⟩
theorem fa121 : FdOk Go.Proofs.Tryz.prog fd121 ∧ E.ld 121 = none ∧ (∀ r ∈ fd121.loops, E.ld r.2.lid = some ⟨121, r.1, r.2, false⟩) ∧ ∀ r ∈ fd121.joins, E.ld r.2.lid = some ⟨121, r.1, r.2, true⟩ :=
  ⟨FdOk.of Go.Proofs.Tryz.func121 (by kernel_rfl), by kernel_rfl, fun r hr => absurd hr (by simp [fd121]), fun r hr => absurd hr (by simp [fd121])⟩
theorem fa105 : FdOk Go.Proofs.Tryz.prog fd105 ∧ E.ld 105 = none ∧ (∀ r ∈ fd105.loops, E.ld r.2.lid = some ⟨105, r.1, r.2, false⟩) ∧ ∀ r ∈ fd105.joins, E.ld r.2.lid = some ⟨105, r.1, r.2, true⟩ :=
  ⟨FdOk.of Go.Proofs.Tryz.func105 (by kernel_rfl), by kernel_rfl, fun r hr => absurd hr (by simp [fd105]), fun r hr => absurd hr (by simp [fd105])⟩
theorem fa106 : FdOk Go.Proofs.Tryz.prog fd106 ∧ E.ld 106 = none ∧ (∀ r ∈ fd106.loops, E.ld r.2.lid = some ⟨106, r.1, r.2, false⟩) ∧ ∀ r ∈ fd106.joins, E.ld r.2.lid = some ⟨106, r.1, r.2, true⟩ :=
  ⟨FdOk.of Go.Proofs.Tryz.func106 (by kernel_rfl), by kernel_rfl, fun r hr => by
    simp only [fd106, List.mem_cons, List.not_mem_nil, or_false] at hr
    subst hr; kernel_rfl, fun r hr => absurd hr (by simp [fd106])⟩
theorem fa87 : FdOk Go.Proofs.Tryz.prog fd87 ∧ E.ld 87 = none ∧ (∀ r ∈ fd87.loops, E.ld r.2.lid = some ⟨87, r.1, r.2, false⟩) ∧ ∀ r ∈ fd87.joins, E.ld r.2.lid = some ⟨87, r.1, r.2, true⟩ :=
  ⟨FdOk.of Go.Proofs.Tryz.func87 (by kernel_rfl), by kernel_rfl, fun r hr => absurd hr (by simp [fd87]), fun r hr => absurd hr (by simp [fd87])⟩
theorem fa63 : FdOk Go.Proofs.Tryz.prog fd63 ∧ E.ld 63 = none ∧ (∀ r ∈ fd63.loops, E.ld r.2.lid = some ⟨63, r.1, r.2, false⟩) ∧ ∀ r ∈ fd63.joins, E.ld r.2.lid = some ⟨63, r.1, r.2, true⟩ :=
  ⟨FdOk.of Go.Proofs.Tryz.func63 (by kernel_rfl), by kernel_rfl, fun r hr => absurd hr (by simp [fd63]), fun r hr => absurd hr (by simp [fd63])⟩
theorem fa67 : FdOk Go.Proofs.Tryz.prog fd67 ∧ E.ld 67 = none ∧ (∀ r ∈ fd67.loops, E.ld r.2.lid = some ⟨67, r.1, r.2, false⟩) ∧ ∀ r ∈ fd67.joins, E.ld r.2.lid = some ⟨67, r.1, r.2, true⟩ :=
  ⟨FdOk.of Go.Proofs.Tryz.func67 (by kernel_rfl), by kernel_rfl, fun r hr => by
    simp only [fd67, List.mem_cons, List.not_mem_nil, or_false] at hr
    subst hr; kernel_rfl, fun r hr => absurd hr (by simp [fd67])⟩
theorem fa38 : FdOk Go.Proofs.Tryz.prog fd38 ∧ E.ld 38 = none ∧ (∀ r ∈ fd38.loops, E.ld r.2.lid = some ⟨38, r.1, r.2, false⟩) ∧ ∀ r ∈ fd38.joins, E.ld r.2.lid = some ⟨38, r.1, r.2, true⟩ :=
  ⟨FdOk.of Go.Proofs.Tryz.func38 (by kernel_rfl), by kernel_rfl, fun r hr => absurd hr (by simp [fd38]), fun r hr => absurd hr (by simp [fd38])⟩
theorem fa64 : FdOk Go.Proofs.Tryz.prog fd64 ∧ E.ld 64 = none ∧ (∀ r ∈ fd64.loops, E.ld r.2.lid = some ⟨64, r.1, r.2, false⟩) ∧ ∀ r ∈ fd64.joins, E.ld r.2.lid = some ⟨64, r.1, r.2, true⟩ :=
  ⟨FdOk.of Go.Proofs.Tryz.func64 (by kernel_rfl), by kernel_rfl, fun r hr => absurd hr (by simp [fd64]), fun r hr => absurd hr (by simp [fd64])⟩
theorem fa10003 : FdOk Go.Proofs.Tryz.prog fd10003 ∧ E.ld 10003 = none ∧ (∀ r ∈ fd10003.loops, E.ld r.2.lid = some ⟨10003, r.1, r.2, false⟩) ∧ ∀ r ∈ fd10003.joins, E.ld r.2.lid = some ⟨10003, r.1, r.2, true⟩ :=
  ⟨FdOk.of Go.Proofs.Tryz.func46 (by kernel_rfl), by kernel_rfl, fun r hr => by
    simp only [fd10003, List.mem_cons, List.not_mem_nil, or_false] at hr
    subst hr; kernel_rfl, fun r hr => absurd hr (by simp [fd10003])⟩
theorem fa10002 : FdOk Go.Proofs.Tryz.prog fd10002 ∧ E.ld 10002 = none ∧ (∀ r ∈ fd10002.loops, E.ld r.2.lid = some ⟨10002, r.1, r.2, false⟩) ∧ ∀ r ∈ fd10002.joins, E.ld r.2.lid = some ⟨10002, r.1, r.2, true⟩ :=
  ⟨FdOk.of Go.Proofs.Tryz.func36 (by kernel_rfl), by kernel_rfl, fun r hr => absurd hr (by simp [fd10002]), fun r hr => absurd hr (by simp [fd10002])⟩
theorem fa129 : FdOk Go.Proofs.Tryz.prog fd129 ∧ E.ld 129 = none ∧ (∀ r ∈ fd129.loops, E.ld r.2.lid = some ⟨129, r.1, r.2, false⟩) ∧ ∀ r ∈ fd129.joins, E.ld r.2.lid = some ⟨129, r.1, r.2, true⟩ :=
  ⟨FdOk.of Go.Proofs.Tryz.func129 (by kernel_rfl), by kernel_rfl, fun r hr => absurd hr (by simp [fd129]), fun r hr => absurd hr (by simp [fd129])⟩
theorem fa127 : FdOk Go.Proofs.Tryz.prog fd127 ∧ E.ld 127 = none ∧ (∀ r ∈ fd127.loops, E.ld r.2.lid = some ⟨127, r.1, r.2, false⟩) ∧ ∀ r ∈ fd127.joins, E.ld r.2.lid = some ⟨127, r.1, r.2, true⟩ :=
  ⟨FdOk.of Go.Proofs.Tryz.func127 (by kernel_rfl), by kernel_rfl, fun r hr => absurd hr (by simp [fd127]), fun r hr => absurd hr (by simp [fd127])⟩
theorem fa117 : FdOk Go.Proofs.Tryz.prog fd117 ∧ E.ld 117 = none ∧ (∀ r ∈ fd117.loops, E.ld r.2.lid = some ⟨117, r.1, r.2, false⟩) ∧ ∀ r ∈ fd117.joins, E.ld r.2.lid = some ⟨117, r.1, r.2, true⟩ :=
  ⟨FdOk.of Go.Proofs.Tryz.func117 (by kernel_rfl), by kernel_rfl, fun r hr => by
    simp only [fd117, List.mem_cons, List.not_mem_nil, or_false] at hr
    subst hr; kernel_rfl, fun r hr => absurd hr (by simp [fd117])⟩
theorem fa91 : FdOk Go.Proofs.Tryz.prog fd91 ∧ E.ld 91 = none ∧ (∀ r ∈ fd91.loops, E.ld r.2.lid = some ⟨91, r.1, r.2, false⟩) ∧ ∀ r ∈ fd91.joins, E.ld r.2.lid = some ⟨91, r.1, r.2, true⟩ :=
  ⟨FdOk.of Go.Proofs.Tryz.func91 (by kernel_rfl), by kernel_rfl, fun r hr => absurd hr (by simp [fd91]), fun r hr => absurd hr (by simp [fd91])⟩
theorem fa10004 : FdOk Go.Proofs.Tryz.prog fd10004 ∧ E.ld 10004 = none ∧ (∀ r ∈ fd10004.loops, E.ld r.2.lid = some ⟨10004, r.1, r.2, false⟩) ∧ ∀ r ∈ fd10004.joins, E.ld r.2.lid = some ⟨10004, r.1, r.2, true⟩ :=
  ⟨FdOk.of Go.Proofs.Tryz.func90 (by kernel_rfl), by kernel_rfl, fun r hr => by
    simp only [fd10004, List.mem_cons, List.not_mem_nil, or_false] at hr
    subst hr; kernel_rfl, fun r hr => absurd hr (by simp [fd10004])⟩
theorem fa66 : FdOk Go.Proofs.Tryz.prog fd66 ∧ E.ld 66 = none ∧ (∀ r ∈ fd66.loops, E.ld r.2.lid = some ⟨66, r.1, r.2, false⟩) ∧ ∀ r ∈ fd66.joins, E.ld r.2.lid = some ⟨66, r.1, r.2, true⟩ :=
  ⟨FdOk.of Go.Proofs.Tryz.func66 (by kernel_rfl), by kernel_rfl, fun r hr => absurd hr (by simp [fd66]), fun r hr => absurd hr (by simp [fd66])⟩
theorem fa10005 : FdOk Go.Proofs.Tryz.prog fd10005 ∧ E.ld 10005 = none ∧ (∀ r ∈ fd10005.loops, E.ld r.2.lid = some ⟨10005, r.1, r.2, false⟩) ∧ ∀ r ∈ fd10005.joins, E.ld r.2.lid = some ⟨10005, r.1, r.2, true⟩ :=
  ⟨FdOk.of Go.Proofs.Tryz.func65 (by kernel_rfl), by kernel_rfl, fun r hr => absurd hr (by simp [fd10005]), fun r hr => absurd hr (by simp [fd10005])⟩
theorem fa35 : FdOk Go.Proofs.Tryz.prog fd35 ∧ E.ld 35 = none ∧ (∀ r ∈ fd35.loops, E.ld r.2.lid = some ⟨35, r.1, r.2, false⟩) ∧ ∀ r ∈ fd35.joins, E.ld r.2.lid = some ⟨35, r.1, r.2, true⟩ :=
  ⟨FdOk.of Go.Proofs.Tryz.func35 (by kernel_rfl), by kernel_rfl, fun r hr => by
    simp only [fd35, List.mem_cons, List.not_mem_nil, or_false] at hr
    rcases hr with rfl | rfl <;> kernel_rfl, fun r hr => absurd hr (by simp [fd35])⟩
theorem fa42 : FdOk Go.Proofs.Tryz.prog fd42 ∧ E.ld 42 = none ∧ (∀ r ∈ fd42.loops, E.ld r.2.lid = some ⟨42, r.1, r.2, false⟩) ∧ ∀ r ∈ fd42.joins, E.ld r.2.lid = some ⟨42, r.1, r.2, true⟩ :=
  ⟨FdOk.of Go.Proofs.Tryz.func42 (by kernel_rfl), by kernel_rfl, fun r hr => absurd hr (by simp [fd42]), fun r hr => absurd hr (by simp [fd42])⟩
theorem fa18 : FdOk Go.Proofs.Tryz.prog fd18 ∧ E.ld 18 = none ∧ (∀ r ∈ fd18.loops, E.ld r.2.lid = some ⟨18, r.1, r.2, false⟩) ∧ ∀ r ∈ fd18.joins, E.ld r.2.lid = some ⟨18, r.1, r.2, true⟩ :=
  ⟨FdOk.of Go.Proofs.Tryz.func18 (by kernel_rfl), by kernel_rfl, fun r hr => absurd hr (by simp [fd18]), fun r hr => absurd hr (by simp [fd18])⟩
theorem fa49 : FdOk Go.Proofs.Tryz.prog fd49 ∧ E.ld 49 = none ∧ (∀ r ∈ fd49.loops, E.ld r.2.lid = some ⟨49, r.1, r.2, false⟩) ∧ ∀ r ∈ fd49.joins, E.ld r.2.lid = some ⟨49, r.1, r.2, true⟩ :=
  ⟨FdOk.of Go.Proofs.Tryz.func49 (by kernel_rfl), by kernel_rfl, fun r hr => by
    simp only [fd49, List.mem_cons, List.not_mem_nil, or_false] at hr
    subst hr; kernel_rfl, fun r hr => absurd hr (by simp [fd49])⟩
theorem fa26 : FdOk Go.Proofs.Tryz.prog fd26 ∧ E.ld 26 = none ∧ (∀ r ∈ fd26.loops, E.ld r.2.lid = some ⟨26, r.1, r.2, false⟩) ∧ ∀ r ∈ fd26.joins, E.ld r.2.lid = some ⟨26, r.1, r.2, true⟩ :=
  ⟨FdOk.of Go.Proofs.Tryz.func26 (by kernel_rfl), by kernel_rfl, fun r hr => by
    simp only [fd26, List.mem_cons, List.not_mem_nil, or_false] at hr
    subst hr; kernel_rfl, fun r hr => absurd hr (by simp [fd26])⟩
theorem fa11 : FdOk Go.Proofs.Tryz.prog fd11 ∧ E.ld 11 = none ∧ (∀ r ∈ fd11.loops, E.ld r.2.lid = some ⟨11, r.1, r.2, false⟩) ∧ ∀ r ∈ fd11.joins, E.ld r.2.lid = some ⟨11, r.1, r.2, true⟩ :=
  ⟨FdOk.of Go.Proofs.Tryz.func11 (by kernel_rfl), by kernel_rfl, fun r hr => absurd hr (by simp [fd11]), fun r hr => absurd hr (by simp [fd11])⟩
theorem fa10 : FdOk Go.Proofs.Tryz.prog fd10 ∧ E.ld 10 = none ∧ (∀ r ∈ fd10.loops, E.ld r.2.lid = some ⟨10, r.1, r.2, false⟩) ∧ ∀ r ∈ fd10.joins, E.ld r.2.lid = some ⟨10, r.1, r.2, true⟩ :=
  ⟨FdOk.of Go.Proofs.Tryz.func10 (by kernel_rfl), by kernel_rfl, fun r hr => by
    simp only [fd10, List.mem_cons, List.not_mem_nil, or_false] at hr
    subst hr; kernel_rfl, fun r hr => absurd hr (by simp [fd10])⟩
theorem fa27 : FdOk Go.Proofs.Tryz.prog fd27 ∧ E.ld 27 = none ∧ (∀ r ∈ fd27.loops, E.ld r.2.lid = some ⟨27, r.1, r.2, false⟩) ∧ ∀ r ∈ fd27.joins, E.ld r.2.lid = some ⟨27, r.1, r.2, true⟩ :=
  ⟨FdOk.of Go.Proofs.Tryz.func27 (by kernel_rfl), by kernel_rfl, fun r hr => by
    simp only [fd27, List.mem_cons, List.not_mem_nil, or_false] at hr
    rcases hr with rfl | rfl <;> kernel_rfl, fun r hr => absurd hr (by simp [fd27])⟩
theorem fa12 : FdOk Go.Proofs.Tryz.prog fd12 ∧ E.ld 12 = none ∧ (∀ r ∈ fd12.loops, E.ld r.2.lid = some ⟨12, r.1, r.2, false⟩) ∧ ∀ r ∈ fd12.joins, E.ld r.2.lid = some ⟨12, r.1, r.2, true⟩ :=
  ⟨FdOk.of Go.Proofs.Tryz.func12 (by kernel_rfl), by kernel_rfl, fun r hr => absurd hr (by simp [fd12]), fun r hr => absurd hr (by simp [fd12])⟩
theorem fa13 : FdOk Go.Proofs.Tryz.prog fd13 ∧ E.ld 13 = none ∧ (∀ r ∈ fd13.loops, E.ld r.2.lid = some ⟨13, r.1, r.2, false⟩) ∧ ∀ r ∈ fd13.joins, E.ld r.2.lid = some ⟨13, r.1, r.2, true⟩ :=
  ⟨FdOk.of Go.Proofs.Tryz.func13 (by kernel_rfl), by kernel_rfl, fun r hr => by
    simp only [fd13, List.mem_cons, List.not_mem_nil, or_false] at hr
    subst hr; kernel_rfl, fun r hr => absurd hr (by simp [fd13])⟩
theorem fa28 : FdOk Go.Proofs.Tryz.prog fd28 ∧ E.ld 28 = none ∧ (∀ r ∈ fd28.loops, E.ld r.2.lid = some ⟨28, r.1, r.2, false⟩) ∧ ∀ r ∈ fd28.joins, E.ld r.2.lid = some ⟨28, r.1, r.2, true⟩ :=
  ⟨FdOk.of Go.Proofs.Tryz.func28 (by kernel_rfl), by kernel_rfl, fun r hr => by
    simp only [fd28, List.mem_cons, List.not_mem_nil, or_false] at hr
    rcases hr with rfl | rfl <;> kernel_rfl, fun r hr => absurd hr (by simp [fd28])⟩
theorem fa14 : FdOk Go.Proofs.Tryz.prog fd14 ∧ E.ld 14 = none ∧ (∀ r ∈ fd14.loops, E.ld r.2.lid = some ⟨14, r.1, r.2, false⟩) ∧ ∀ r ∈ fd14.joins, E.ld r.2.lid = some ⟨14, r.1, r.2, true⟩ :=
  ⟨FdOk.of Go.Proofs.Tryz.func14 (by kernel_rfl), by kernel_rfl, fun r hr => by
    simp only [fd14, List.mem_cons, List.not_mem_nil, or_false] at hr
    subst hr; kernel_rfl, fun r hr => absurd hr (by simp [fd14])⟩
theorem fa5 : FdOk Go.Proofs.Tryz.prog fd5 ∧ E.ld 5 = none ∧ (∀ r ∈ fd5.loops, E.ld r.2.lid = some ⟨5, r.1, r.2, false⟩) ∧ ∀ r ∈ fd5.joins, E.ld r.2.lid = some ⟨5, r.1, r.2, true⟩ :=
  ⟨FdOk.of Go.Proofs.Tryz.func5 (by kernel_rfl), by kernel_rfl, fun r hr => absurd hr (by simp [fd5]), fun r hr => absurd hr (by simp [fd5])⟩
def lay10005_ren : Go.Shelf.Ren := ⟨fun | 6 => 65 | 15 => 89 | 14 => 88 | 28 => 115 | 29 => 116 | 20 => 107 | 21 => 108 | 22 => 109 | 23 => 110 | 24 => 111 | 25 => 112 | 26 => 113 | 27 => 114 | 46 => 122 | 47 => 123 | 48 => 124 | 49 => 125 | 50 => 126 | 57 => 128 | n => n, fun | 22 => 26 | 24 => 31 | 25 => 70 | 3 => 3 | 39 => 85 | 0 => 0 | 53 => 104 | 55 => 106 | 4 => 4 | 46 => 97 | 45 => 96 | 50 => 101 | 5 => 5 | 9 => 9 | 66 => 111 | 70 => 115 | 76 => 118 | 77 => 119 | n => n, fun | n => n⟩
theorem lay10005 : Go.Proofs.SlLaysF0.n6 Go.Proofs.Tryz.prog lay10005_ren where
  mixed := by kernel_rfl
  f6 := ⟨ "slices.SortFunc[[]loop.example/g01205/impl.Normal,loop.example/g01205/impl.Normal]", by decide, Go.Proofs.Tryz.func65.trans (congrArg some (by kernel_rfl))⟩
  f14 := ⟨ "slices.pdqsortCmpFunc[loop.example/g01205/impl.Normal]", by decide, Go.Proofs.Tryz.func88.trans (congrArg some (by kernel_rfl))⟩
  f15 := Go.Proofs.Tryz.func89.trans (congrArg some (by kernel_rfl))
  f20 := ⟨ "slices.insertionSortCmpFunc[loop.example/g01205/impl.Normal]", by decide, Go.Proofs.Tryz.func107.trans (congrArg some (by kernel_rfl))⟩
  f21 := ⟨ "slices.heapSortCmpFunc[loop.example/g01205/impl.Normal]", by decide, Go.Proofs.Tryz.func108.trans (congrArg some (by kernel_rfl))⟩
  f22 := ⟨ "slices.breakPatternsCmpFunc[loop.example/g01205/impl.Normal]", by decide, Go.Proofs.Tryz.func109.trans (congrArg some (by kernel_rfl))⟩
  f23 := ⟨ "slices.choosePivotCmpFunc[loop.example/g01205/impl.Normal]", by decide, Go.Proofs.Tryz.func110.trans (congrArg some (by kernel_rfl))⟩
  f24 := ⟨ "slices.reverseRangeCmpFunc[loop.example/g01205/impl.Normal]", by decide, Go.Proofs.Tryz.func111.trans (congrArg some (by kernel_rfl))⟩
  f25 := ⟨ "slices.partialInsertionSortCmpFunc[loop.example/g01205/impl.Normal]", by decide, Go.Proofs.Tryz.func112.trans (congrArg some (by kernel_rfl))⟩
  f26 := ⟨ "slices.partitionEqualCmpFunc[loop.example/g01205/impl.Normal]", by decide, Go.Proofs.Tryz.func113.trans (congrArg some (by kernel_rfl))⟩
  f27 := ⟨ "slices.partitionCmpFunc[loop.example/g01205/impl.Normal]", by decide, Go.Proofs.Tryz.func114.trans (congrArg some (by kernel_rfl))⟩
  f28 := Go.Proofs.Tryz.func115.trans (congrArg some (by kernel_rfl))
  f29 := Go.Proofs.Tryz.func116.trans (congrArg some (by kernel_rfl))
  f46 := ⟨ "slices.siftDownCmpFunc[loop.example/g01205/impl.Normal]", by decide, Go.Proofs.Tryz.func122.trans (congrArg some (by kernel_rfl))⟩
  f47 := Go.Proofs.Tryz.func123.trans (congrArg some (by kernel_rfl))
  f48 := Go.Proofs.Tryz.func124.trans (congrArg some (by kernel_rfl))
  f49 := ⟨ "slices.medianAdjacentCmpFunc[loop.example/g01205/impl.Normal]", by decide, Go.Proofs.Tryz.func125.trans (congrArg some (by kernel_rfl))⟩
  f50 := ⟨ "slices.medianCmpFunc[loop.example/g01205/impl.Normal]", by decide, Go.Proofs.Tryz.func126.trans (congrArg some (by kernel_rfl))⟩
  f57 := ⟨ "slices.order2CmpFunc[loop.example/g01205/impl.Normal]", by decide, Go.Proofs.Tryz.func128.trans (congrArg some (by kernel_rfl))⟩
  t0 := Go.Proofs.Tryz.underlying0
  a0 := Go.Proofs.Tryz.isAgg0
  z0 := Go.Proofs.Tryz.sizeOf0
  v0 := Go.Proofs.Tryz.zeroValue0
  t3 := Go.Proofs.Tryz.underlying3
  a3 := Go.Proofs.Tryz.isAgg3
  z3 := Go.Proofs.Tryz.sizeOf3
  v3 := Go.Proofs.Tryz.zeroValue3
  t4 := Go.Proofs.Tryz.underlying4
  a4 := Go.Proofs.Tryz.isAgg4
  z4 := Go.Proofs.Tryz.sizeOf4
  v4 := Go.Proofs.Tryz.zeroValue4
  t5 := Go.Proofs.Tryz.underlying5
  a5 := Go.Proofs.Tryz.isAgg5
  z5 := Go.Proofs.Tryz.sizeOf5
  v5 := Go.Proofs.Tryz.zeroValue5
  t9 := Go.Proofs.Tryz.underlying9
  a9 := Go.Proofs.Tryz.isAgg9
  z9 := Go.Proofs.Tryz.sizeOf9
  v9 := Go.Proofs.Tryz.zeroValue9
  t22 := Go.Proofs.Tryz.underlying26
  a22 := Go.Proofs.Tryz.isAgg26
  z22 := Go.Proofs.Tryz.sizeOf26
  v22 := Go.Proofs.Tryz.zeroValue26
  t25 := Go.Proofs.Tryz.underlying70
  a25 := Go.Proofs.Tryz.isAgg70
  z25 := Go.Proofs.Tryz.sizeOf70
  v25 := Go.Proofs.Tryz.zeroValue70
  t39 := Go.Proofs.Tryz.underlying85
  a39 := Go.Proofs.Tryz.isAgg85
  z39 := Go.Proofs.Tryz.sizeOf85
  v39 := Go.Proofs.Tryz.zeroValue85
  t45 := Go.Proofs.Tryz.underlying96
  a45 := Go.Proofs.Tryz.isAgg96
  z45 := Go.Proofs.Tryz.sizeOf96
  v45 := Go.Proofs.Tryz.zeroValue96
  t46 := Go.Proofs.Tryz.underlying97
  a46 := Go.Proofs.Tryz.isAgg97
  z46 := Go.Proofs.Tryz.sizeOf97
  v46 := Go.Proofs.Tryz.zeroValue97
  t50 := Go.Proofs.Tryz.underlying101
  a50 := Go.Proofs.Tryz.isAgg101
  z50 := Go.Proofs.Tryz.sizeOf101
  v50 := Go.Proofs.Tryz.zeroValue101
  t53 := Go.Proofs.Tryz.underlying104
  a53 := Go.Proofs.Tryz.isAgg104
  z53 := Go.Proofs.Tryz.sizeOf104
  v53 := Go.Proofs.Tryz.zeroValue104
  t55 := Go.Proofs.Tryz.underlying106
  a55 := Go.Proofs.Tryz.isAgg106
  z55 := Go.Proofs.Tryz.sizeOf106
  v55 := Go.Proofs.Tryz.zeroValue106
  t66 := Go.Proofs.Tryz.underlying111
  a66 := Go.Proofs.Tryz.isAgg111
  z66 := Go.Proofs.Tryz.sizeOf111
  v66 := Go.Proofs.Tryz.zeroValue111
  t70 := Go.Proofs.Tryz.underlying115
  a70 := Go.Proofs.Tryz.isAgg115
  z70 := Go.Proofs.Tryz.sizeOf115
  v70 := Go.Proofs.Tryz.zeroValue115
  t76 := Go.Proofs.Tryz.underlying118
  a76 := Go.Proofs.Tryz.isAgg118
  z76 := Go.Proofs.Tryz.sizeOf118
  v76 := Go.Proofs.Tryz.zeroValue118
  t77 := Go.Proofs.Tryz.underlying119
  a77 := Go.Proofs.Tryz.isAgg119
  z77 := Go.Proofs.Tryz.sizeOf119
  v77 := Go.Proofs.Tryz.zeroValue119
theorem fx10005 : ∃ fd, E.fd 10005 = some fd ∧ ExtOk Go.Proofs.Tryz.prog E fd (.sort 66 (.pair (.int .i64) (.pair (.int .i64) (.slice (.arr .u8 8))))) :=
  ⟨fd10005, by kernel_rfl, sort_ok (T := 31) lay10005 ((envTy_of rfl tyOk strOk).ty _ _ (by kernel_rfl)) rfl Go.Proofs.Tryz.isAgg31 Go.Proofs.Tryz.sizeOf31 rfl (.inl rfl) rfl (by kernel_rfl) (by kernel_rfl) fa66.1 rfl rfl⟩
theorem envOk : EnvOk Go.Proofs.Tryz.prog E := EnvOk.of (envTy_of rfl tyOk strOk) (by kernel_rfl) rfl (by
  simp only [fdTab, List.forall_mem_cons]
  exact ⟨fa19, fa6, fa45, fa22, fa8, fa68, fa80, fa53, fa76, fa98, fa81, fa50, fa39, fa97, fa77, fa44, fa96, fa118, fa95, fa75, fa43, fa20, fa51, fa30, fa52, fa103, fa83, fa102, fa82, fa54, fa55, fa21, fa32, fa31, fa40, fa17, fa70, fa69, fa71, fa72, fa73, fa92, fa94, fa93, fa74, fa41, fa61, fa84, fa101, fa79, fa100, fa119, fa99, fa78, fa47, fa57, fa10000, fa58, fa60, fa59, fa10001, fa34, fa85, fa104, fa86, fa62, fa120, fa121, fa105, fa106, fa87, fa63, fa67, fa38, fa64, fa10003, fa10002, fa129, fa127, fa117, fa91, fa10004, fa66, fa10005, fa35, fa42, fa18, fa49, fa26, fa11, fa10, fa27, fa12, fa13, fa28, fa14, fa5, fun q hq => absurd hq (by simp)⟩) rfl (by
  simp only [extTab, List.forall_mem_cons]
  exact ⟨fx10005, fun q hq => absurd hq (by simp)⟩)
end Go.Ev.YtolpnaiincngjaaGreat
