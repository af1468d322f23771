/- The evaluator's tables are the program's. -/
import Derived.KernelRfl
import Derived.Test.YteclcmiopobnaaaEnv
import Derived.Test.YteclcmiopobnaaaV3
set_option linter.unusedVariables false
namespace Go.Ev.Yteclcmiopobnaaa
open Go.Ev
theorem strOk : E.str.all (isStrB Go.Proofs.Try.prog) = true := by kernel_rfl
theorem tyOk : tyTab.all (fun q => tyOkB Go.Proofs.Try.prog q.2 q.1) = true := by kernel_rfl
theorem fa6 : FdOk Go.Proofs.Try.prog fd6 ∧ E.ld 6 = none ∧ (∀ r ∈ fd6.loops, E.ld r.2.lid = some ⟨6, r.1, r.2, false⟩) ∧ ∀ r ∈ fd6.joins, E.ld r.2.lid = some ⟨6, r.1, r.2, true⟩ :=
  ⟨FdOk.of Go.Proofs.Try.func6 (by kernel_rfl), by kernel_rfl, fun r hr => absurd hr (by simp [fd6]), fun r hr => absurd hr (by simp [fd6])⟩
theorem fa55 : FdOk Go.Proofs.Try.prog fd55 ∧ E.ld 55 = none ∧ (∀ r ∈ fd55.loops, E.ld r.2.lid = some ⟨55, r.1, r.2, false⟩) ∧ ∀ r ∈ fd55.joins, E.ld r.2.lid = some ⟨55, r.1, r.2, true⟩ :=
  ⟨FdOk.of Go.Proofs.Try.func55 (by kernel_rfl), by kernel_rfl, fun r hr => by
    simp only [fd55, List.mem_cons, List.not_mem_nil, or_false] at hr
    subst hr; kernel_rfl, fun r hr => absurd hr (by simp [fd55])⟩
theorem fa60 : FdOk Go.Proofs.Try.prog fd60 ∧ E.ld 60 = none ∧ (∀ r ∈ fd60.loops, E.ld r.2.lid = some ⟨60, r.1, r.2, false⟩) ∧ ∀ r ∈ fd60.joins, E.ld r.2.lid = some ⟨60, r.1, r.2, true⟩ :=
  ⟨FdOk.of Go.Proofs.Try.func60 (by kernel_rfl), by kernel_rfl, fun r hr => absurd hr (by simp [fd60]), fun r hr => absurd hr (by simp [fd60])⟩
theorem fa61 : FdOk Go.Proofs.Try.prog fd61 ∧ E.ld 61 = none ∧ (∀ r ∈ fd61.loops, E.ld r.2.lid = some ⟨61, r.1, r.2, false⟩) ∧ ∀ r ∈ fd61.joins, E.ld r.2.lid = some ⟨61, r.1, r.2, true⟩ :=
  ⟨FdOk.of Go.Proofs.Try.func61 (by kernel_rfl), by kernel_rfl, fun r hr => absurd hr (by simp [fd61]), fun r hr => absurd hr (by simp [fd61])⟩
theorem fa82 : FdOk Go.Proofs.Try.prog fd82 ∧ E.ld 82 = none ∧ (∀ r ∈ fd82.loops, E.ld r.2.lid = some ⟨82, r.1, r.2, false⟩) ∧ ∀ r ∈ fd82.joins, E.ld r.2.lid = some ⟨82, r.1, r.2, true⟩ :=
  ⟨FdOk.of Go.Proofs.Try.func82 (by kernel_rfl), by kernel_rfl, fun r hr => by
    simp only [fd82, List.mem_cons, List.not_mem_nil, or_false] at hr
    subst hr; kernel_rfl, fun r hr => absurd hr (by simp [fd82])⟩
theorem fa69 : FdOk Go.Proofs.Try.prog fd69 ∧ E.ld 69 = none ∧ (∀ r ∈ fd69.loops, E.ld r.2.lid = some ⟨69, r.1, r.2, false⟩) ∧ ∀ r ∈ fd69.joins, E.ld r.2.lid = some ⟨69, r.1, r.2, true⟩ :=
  ⟨FdOk.of Go.Proofs.Try.func69 (by kernel_rfl), by kernel_rfl, fun r hr => absurd hr (by simp [fd69]), fun r hr => absurd hr (by simp [fd69])⟩
theorem fa87 : FdOk Go.Proofs.Try.prog fd87 ∧ E.ld 87 = none ∧ (∀ r ∈ fd87.loops, E.ld r.2.lid = some ⟨87, r.1, r.2, false⟩) ∧ ∀ r ∈ fd87.joins, E.ld r.2.lid = some ⟨87, r.1, r.2, true⟩ :=
  ⟨FdOk.of Go.Proofs.Try.func87 (by kernel_rfl), by kernel_rfl, fun r hr => absurd hr (by simp [fd87]), fun r hr => absurd hr (by simp [fd87])⟩
theorem fa111 : FdOk Go.Proofs.Try.prog fd111 ∧ E.ld 111 = none ∧ (∀ r ∈ fd111.loops, E.ld r.2.lid = some ⟨111, r.1, r.2, false⟩) ∧ ∀ r ∈ fd111.joins, E.ld r.2.lid = some ⟨111, r.1, r.2, true⟩ :=
  ⟨FdOk.of Go.Proofs.Try.func111 (by kernel_rfl), by kernel_rfl, fun r hr => absurd hr (by simp [fd111]), fun r hr => absurd hr (by simp [fd111])⟩
theorem fa54 : FdOk Go.Proofs.Try.prog fd54 ∧ E.ld 54 = none ∧ (∀ r ∈ fd54.loops, E.ld r.2.lid = some ⟨54, r.1, r.2, false⟩) ∧ ∀ r ∈ fd54.joins, E.ld r.2.lid = some ⟨54, r.1, r.2, true⟩ :=
  ⟨FdOk.of Go.Proofs.Try.func54 (by kernel_rfl), by kernel_rfl, fun r hr => absurd hr (by simp [fd54]), fun r hr => absurd hr (by simp [fd54])⟩
theorem fa7 : FdOk Go.Proofs.Try.prog fd7 ∧ E.ld 7 = none ∧ (∀ r ∈ fd7.loops, E.ld r.2.lid = some ⟨7, r.1, r.2, false⟩) ∧ ∀ r ∈ fd7.joins, E.ld r.2.lid = some ⟨7, r.1, r.2, true⟩ :=
  ⟨FdOk.of Go.Proofs.Try.func7 (by kernel_rfl), by kernel_rfl, fun r hr => absurd hr (by simp [fd7]), fun r hr => absurd hr (by simp [fd7])⟩
theorem fa97 : FdOk Go.Proofs.Try.prog fd97 ∧ E.ld 97 = none ∧ (∀ r ∈ fd97.loops, E.ld r.2.lid = some ⟨97, r.1, r.2, false⟩) ∧ ∀ r ∈ fd97.joins, E.ld r.2.lid = some ⟨97, r.1, r.2, true⟩ :=
  ⟨FdOk.of Go.Proofs.Try.func97 (by kernel_rfl), by kernel_rfl, fun r hr => absurd hr (by simp [fd97]), fun r hr => absurd hr (by simp [fd97])⟩
theorem fa96 : FdOk Go.Proofs.Try.prog fd96 ∧ E.ld 96 = none ∧ (∀ r ∈ fd96.loops, E.ld r.2.lid = some ⟨96, r.1, r.2, false⟩) ∧ ∀ r ∈ fd96.joins, E.ld r.2.lid = some ⟨96, r.1, r.2, true⟩ :=
  ⟨FdOk.of Go.Proofs.Try.func96 (by kernel_rfl), by kernel_rfl, fun r hr => absurd hr (by simp [fd96]), fun r hr => absurd hr (by simp [fd96])⟩
theorem fa112 : FdOk Go.Proofs.Try.prog fd112 ∧ E.ld 112 = none ∧ (∀ r ∈ fd112.loops, E.ld r.2.lid = some ⟨112, r.1, r.2, false⟩) ∧ ∀ r ∈ fd112.joins, E.ld r.2.lid = some ⟨112, r.1, r.2, true⟩ :=
  ⟨FdOk.of Go.Proofs.Try.func112 (by kernel_rfl), by kernel_rfl, fun r hr => absurd hr (by simp [fd112]), fun r hr => absurd hr (by simp [fd112])⟩
theorem fa56 : FdOk Go.Proofs.Try.prog fd56 ∧ E.ld 56 = none ∧ (∀ r ∈ fd56.loops, E.ld r.2.lid = some ⟨56, r.1, r.2, false⟩) ∧ ∀ r ∈ fd56.joins, E.ld r.2.lid = some ⟨56, r.1, r.2, true⟩ :=
  ⟨FdOk.of Go.Proofs.Try.func56 (by kernel_rfl), by kernel_rfl, fun r hr => by
    simp only [fd56, List.mem_cons, List.not_mem_nil, or_false] at hr
    subst hr; kernel_rfl, fun r hr => absurd hr (by simp [fd56])⟩
theorem fa91 : FdOk Go.Proofs.Try.prog fd91 ∧ E.ld 91 = none ∧ (∀ r ∈ fd91.loops, E.ld r.2.lid = some ⟨91, r.1, r.2, false⟩) ∧ ∀ r ∈ fd91.joins, E.ld r.2.lid = some ⟨91, r.1, r.2, true⟩ :=
  ⟨FdOk.of Go.Proofs.Try.func91 (by kernel_rfl), by kernel_rfl, fun r hr => absurd hr (by simp [fd91]), fun r hr => absurd hr (by simp [fd91])⟩
theorem fa113 : FdOk Go.Proofs.Try.prog fd113 ∧ E.ld 113 = none ∧ (∀ r ∈ fd113.loops, E.ld r.2.lid = some ⟨113, r.1, r.2, false⟩) ∧ ∀ r ∈ fd113.joins, E.ld r.2.lid = some ⟨113, r.1, r.2, true⟩ :=
  ⟨FdOk.of Go.Proofs.Try.func113 (by kernel_rfl), by kernel_rfl, fun r hr => by
    simp only [fd113, List.mem_cons, List.not_mem_nil, or_false] at hr
    subst hr; kernel_rfl, fun r hr => absurd hr (by simp [fd113])⟩
theorem fa57 : FdOk Go.Proofs.Try.prog fd57 ∧ E.ld 57 = none ∧ (∀ r ∈ fd57.loops, E.ld r.2.lid = some ⟨57, r.1, r.2, false⟩) ∧ ∀ r ∈ fd57.joins, E.ld r.2.lid = some ⟨57, r.1, r.2, true⟩ :=
  ⟨FdOk.of Go.Proofs.Try.func57 (by kernel_rfl), by kernel_rfl, fun r hr => by
    simp only [fd57, List.mem_cons, List.not_mem_nil, or_false] at hr
    subst hr; kernel_rfl, fun r hr => absurd hr (by simp [fd57])⟩
theorem fa8 : FdOk Go.Proofs.Try.prog fd8 ∧ E.ld 8 = none ∧ (∀ r ∈ fd8.loops, E.ld r.2.lid = some ⟨8, r.1, r.2, false⟩) ∧ ∀ r ∈ fd8.joins, E.ld r.2.lid = some ⟨8, r.1, r.2, true⟩ :=
  ⟨FdOk.of Go.Proofs.Try.func8 (by kernel_rfl), by kernel_rfl, fun r hr => absurd hr (by simp [fd8]), fun r hr => absurd hr (by simp [fd8])⟩
theorem fa114 : FdOk Go.Proofs.Try.prog fd114 ∧ E.ld 114 = none ∧ (∀ r ∈ fd114.loops, E.ld r.2.lid = some ⟨114, r.1, r.2, false⟩) ∧ ∀ r ∈ fd114.joins, E.ld r.2.lid = some ⟨114, r.1, r.2, true⟩ :=
  ⟨FdOk.of Go.Proofs.Try.func114 (by kernel_rfl), by kernel_rfl, fun r hr => absurd hr (by simp [fd114]), fun r hr => absurd hr (by simp [fd114])⟩
theorem fa58 : FdOk Go.Proofs.Try.prog fd58 ∧ E.ld 58 = none ∧ (∀ r ∈ fd58.loops, E.ld r.2.lid = some ⟨58, r.1, r.2, false⟩) ∧ ∀ r ∈ fd58.joins, E.ld r.2.lid = some ⟨58, r.1, r.2, true⟩ :=
  ⟨FdOk.of Go.Proofs.Try.func58 (by kernel_rfl), by kernel_rfl, fun r hr => by
    simp only [fd58, List.mem_cons, List.not_mem_nil, or_false] at hr
    subst hr; kernel_rfl, fun r hr => absurd hr (by simp [fd58])⟩
theorem fa115 : FdOk Go.Proofs.Try.prog fd115 ∧ E.ld 115 = none ∧ (∀ r ∈ fd115.loops, E.ld r.2.lid = some ⟨115, r.1, r.2, false⟩) ∧ ∀ r ∈ fd115.joins, E.ld r.2.lid = some ⟨115, r.1, r.2, true⟩ :=
  ⟨FdOk.of Go.Proofs.Try.func115 (by kernel_rfl), by kernel_rfl, fun r hr => absurd hr (by simp [fd115]), fun r hr => absurd hr (by simp [fd115])⟩
theorem fa59 : FdOk Go.Proofs.Try.prog fd59 ∧ E.ld 59 = none ∧ (∀ r ∈ fd59.loops, E.ld r.2.lid = some ⟨59, r.1, r.2, false⟩) ∧ ∀ r ∈ fd59.joins, E.ld r.2.lid = some ⟨59, r.1, r.2, true⟩ :=
  ⟨FdOk.of Go.Proofs.Try.func59 (by kernel_rfl), by kernel_rfl, fun r hr => by
    simp only [fd59, List.mem_cons, List.not_mem_nil, or_false] at hr
    rcases hr with rfl | rfl <;> kernel_rfl, fun r hr => absurd hr (by simp [fd59])⟩
theorem fa9 : FdOk Go.Proofs.Try.prog fd9 ∧ E.ld 9 = none ∧ (∀ r ∈ fd9.loops, E.ld r.2.lid = some ⟨9, r.1, r.2, false⟩) ∧ ∀ r ∈ fd9.joins, E.ld r.2.lid = some ⟨9, r.1, r.2, true⟩ :=
  ⟨FdOk.of Go.Proofs.Try.func9 (by kernel_rfl), by kernel_rfl, fun r hr => absurd hr (by simp [fd9]), fun r hr => absurd hr (by simp [fd9])⟩
theorem fa10 : FdOk Go.Proofs.Try.prog fd10 ∧ E.ld 10 = none ∧ (∀ r ∈ fd10.loops, E.ld r.2.lid = some ⟨10, r.1, r.2, false⟩) ∧ ∀ r ∈ fd10.joins, E.ld r.2.lid = some ⟨10, r.1, r.2, true⟩ :=
  ⟨FdOk.of Go.Proofs.Try.func10 (by kernel_rfl), by kernel_rfl, fun r hr => by
    simp only [fd10, List.mem_cons, List.not_mem_nil, or_false] at hr
    subst hr; kernel_rfl, fun r hr => absurd hr (by simp [fd10])⟩
theorem fa65 : FdOk Go.Proofs.Try.prog fd65 ∧ E.ld 65 = none ∧ (∀ r ∈ fd65.loops, E.ld r.2.lid = some ⟨65, r.1, r.2, false⟩) ∧ ∀ r ∈ fd65.joins, E.ld r.2.lid = some ⟨65, r.1, r.2, true⟩ :=
  ⟨FdOk.of Go.Proofs.Try.func65 (by kernel_rfl), by kernel_rfl, fun r hr => absurd hr (by simp [fd65]), fun r hr => absurd hr (by simp [fd65])⟩
theorem fa62 : FdOk Go.Proofs.Try.prog fd62 ∧ E.ld 62 = none ∧ (∀ r ∈ fd62.loops, E.ld r.2.lid = some ⟨62, r.1, r.2, false⟩) ∧ ∀ r ∈ fd62.joins, E.ld r.2.lid = some ⟨62, r.1, r.2, true⟩ :=
  ⟨FdOk.of Go.Proofs.Try.func62 (by kernel_rfl), by kernel_rfl, fun r hr => by
    simp only [fd62, List.mem_cons, List.not_mem_nil, or_false] at hr
    subst hr; kernel_rfl, fun r hr => absurd hr (by simp [fd62])⟩
theorem fa11 : FdOk Go.Proofs.Try.prog fd11 ∧ E.ld 11 = none ∧ (∀ r ∈ fd11.loops, E.ld r.2.lid = some ⟨11, r.1, r.2, false⟩) ∧ ∀ r ∈ fd11.joins, E.ld r.2.lid = some ⟨11, r.1, r.2, true⟩ :=
  ⟨FdOk.of Go.Proofs.Try.func11 (by kernel_rfl), by kernel_rfl, fun r hr => absurd hr (by simp [fd11]), fun r hr => absurd hr (by simp [fd11])⟩
theorem fa63 : FdOk Go.Proofs.Try.prog fd63 ∧ E.ld 63 = none ∧ (∀ r ∈ fd63.loops, E.ld r.2.lid = some ⟨63, r.1, r.2, false⟩) ∧ ∀ r ∈ fd63.joins, E.ld r.2.lid = some ⟨63, r.1, r.2, true⟩ :=
  ⟨FdOk.of Go.Proofs.Try.func63 (by kernel_rfl), by kernel_rfl, fun r hr => by
    simp only [fd63, List.mem_cons, List.not_mem_nil, or_false] at hr
    subst hr; kernel_rfl, fun r hr => absurd hr (by simp [fd63])⟩
theorem fa12 : FdOk Go.Proofs.Try.prog fd12 ∧ E.ld 12 = none ∧ (∀ r ∈ fd12.loops, E.ld r.2.lid = some ⟨12, r.1, r.2, false⟩) ∧ ∀ r ∈ fd12.joins, E.ld r.2.lid = some ⟨12, r.1, r.2, true⟩ :=
  ⟨FdOk.of Go.Proofs.Try.func12 (by kernel_rfl), by kernel_rfl, fun r hr => absurd hr (by simp [fd12]), fun r hr => absurd hr (by simp [fd12])⟩
theorem fa13 : FdOk Go.Proofs.Try.prog fd13 ∧ E.ld 13 = none ∧ (∀ r ∈ fd13.loops, E.ld r.2.lid = some ⟨13, r.1, r.2, false⟩) ∧ ∀ r ∈ fd13.joins, E.ld r.2.lid = some ⟨13, r.1, r.2, true⟩ :=
  ⟨FdOk.of Go.Proofs.Try.func13 (by kernel_rfl), by kernel_rfl, fun r hr => by
    simp only [fd13, List.mem_cons, List.not_mem_nil, or_false] at hr
    subst hr; kernel_rfl, fun r hr => absurd hr (by simp [fd13])⟩
theorem fa14 : FdOk Go.Proofs.Try.prog fd14 ∧ E.ld 14 = none ∧ (∀ r ∈ fd14.loops, E.ld r.2.lid = some ⟨14, r.1, r.2, false⟩) ∧ ∀ r ∈ fd14.joins, E.ld r.2.lid = some ⟨14, r.1, r.2, true⟩ :=
  ⟨FdOk.of Go.Proofs.Try.func14 (by kernel_rfl), by kernel_rfl, fun r hr => absurd hr (by simp [fd14]), fun r hr => absurd hr (by simp [fd14])⟩
theorem fa147 : FdOk Go.Proofs.Try.prog fd147 ∧ E.ld 147 = none ∧ (∀ r ∈ fd147.loops, E.ld r.2.lid = some ⟨147, r.1, r.2, false⟩) ∧ ∀ r ∈ fd147.joins, E.ld r.2.lid = some ⟨147, r.1, r.2, true⟩ :=
  ⟨FdOk.of Go.Proofs.Try.func147 (by kernel_rfl), by kernel_rfl, fun r hr => by
    simp only [fd147, List.mem_cons, List.not_mem_nil, or_false] at hr
    subst hr; kernel_rfl, fun r hr => absurd hr (by simp [fd147])⟩
theorem fa117 : FdOk Go.Proofs.Try.prog fd117 ∧ E.ld 117 = none ∧ (∀ r ∈ fd117.loops, E.ld r.2.lid = some ⟨117, r.1, r.2, false⟩) ∧ ∀ r ∈ fd117.joins, E.ld r.2.lid = some ⟨117, r.1, r.2, true⟩ :=
  ⟨FdOk.of Go.Proofs.Try.func117 (by kernel_rfl), by kernel_rfl, fun r hr => absurd hr (by simp [fd117]), fun r hr => absurd hr (by simp [fd117])⟩
theorem fa10000 : FdOk Go.Proofs.Try.prog fd10000 ∧ E.ld 10000 = none ∧ (∀ r ∈ fd10000.loops, E.ld r.2.lid = some ⟨10000, r.1, r.2, false⟩) ∧ ∀ r ∈ fd10000.joins, E.ld r.2.lid = some ⟨10000, r.1, r.2, true⟩ :=
  ⟨FdOk.of Go.Proofs.Try.func116 (by kernel_rfl), by kernel_rfl, fun r hr => by
    simp only [fd10000, List.mem_cons, List.not_mem_nil, or_false] at hr
    subst hr; kernel_rfl, fun r hr => absurd hr (by simp [fd10000])⟩
theorem fa64 : FdOk Go.Proofs.Try.prog fd64 ∧ E.ld 64 = none ∧ (∀ r ∈ fd64.loops, E.ld r.2.lid = some ⟨64, r.1, r.2, false⟩) ∧ ∀ r ∈ fd64.joins, E.ld r.2.lid = some ⟨64, r.1, r.2, true⟩ :=
  ⟨FdOk.of Go.Proofs.Try.func64 (by kernel_rfl), by kernel_rfl, fun r hr => by
    simp only [fd64, List.mem_cons, List.not_mem_nil, or_false] at hr
    subst hr; kernel_rfl, fun r hr => absurd hr (by simp [fd64])⟩
theorem fa15 : FdOk Go.Proofs.Try.prog fd15 ∧ E.ld 15 = none ∧ (∀ r ∈ fd15.loops, E.ld r.2.lid = some ⟨15, r.1, r.2, false⟩) ∧ ∀ r ∈ fd15.joins, E.ld r.2.lid = some ⟨15, r.1, r.2, true⟩ :=
  ⟨FdOk.of Go.Proofs.Try.func15 (by kernel_rfl), by kernel_rfl, fun r hr => absurd hr (by simp [fd15]), fun r hr => absurd hr (by simp [fd15])⟩
theorem fa16 : FdOk Go.Proofs.Try.prog fd16 ∧ E.ld 16 = none ∧ (∀ r ∈ fd16.loops, E.ld r.2.lid = some ⟨16, r.1, r.2, false⟩) ∧ ∀ r ∈ fd16.joins, E.ld r.2.lid = some ⟨16, r.1, r.2, true⟩ :=
  ⟨FdOk.of Go.Proofs.Try.func16 (by kernel_rfl), by kernel_rfl, fun r hr => by
    simp only [fd16, List.mem_cons, List.not_mem_nil, or_false] at hr
    subst hr; kernel_rfl, fun r hr => absurd hr (by simp [fd16])⟩
theorem fa66 : FdOk Go.Proofs.Try.prog fd66 ∧ E.ld 66 = none ∧ (∀ r ∈ fd66.loops, E.ld r.2.lid = some ⟨66, r.1, r.2, false⟩) ∧ ∀ r ∈ fd66.joins, E.ld r.2.lid = some ⟨66, r.1, r.2, true⟩ :=
  ⟨FdOk.of Go.Proofs.Try.func66 (by kernel_rfl), by kernel_rfl, fun r hr => absurd hr (by simp [fd66]), fun r hr => absurd hr (by simp [fd66])⟩
theorem fa17 : FdOk Go.Proofs.Try.prog fd17 ∧ E.ld 17 = none ∧ (∀ r ∈ fd17.loops, E.ld r.2.lid = some ⟨17, r.1, r.2, false⟩) ∧ ∀ r ∈ fd17.joins, E.ld r.2.lid = some ⟨17, r.1, r.2, true⟩ :=
  ⟨FdOk.of Go.Proofs.Try.func17 (by kernel_rfl), by kernel_rfl, fun r hr => absurd hr (by simp [fd17]), fun r hr => absurd hr (by simp [fd17])⟩
theorem fa67 : FdOk Go.Proofs.Try.prog fd67 ∧ E.ld 67 = none ∧ (∀ r ∈ fd67.loops, E.ld r.2.lid = some ⟨67, r.1, r.2, false⟩) ∧ ∀ r ∈ fd67.joins, E.ld r.2.lid = some ⟨67, r.1, r.2, true⟩ :=
  ⟨FdOk.of Go.Proofs.Try.func67 (by kernel_rfl), by kernel_rfl, fun r hr => by
    simp only [fd67, List.mem_cons, List.not_mem_nil, or_false] at hr
    subst hr; kernel_rfl, fun r hr => absurd hr (by simp [fd67])⟩
theorem fa18 : FdOk Go.Proofs.Try.prog fd18 ∧ E.ld 18 = none ∧ (∀ r ∈ fd18.loops, E.ld r.2.lid = some ⟨18, r.1, r.2, false⟩) ∧ ∀ r ∈ fd18.joins, E.ld r.2.lid = some ⟨18, r.1, r.2, true⟩ :=
  ⟨FdOk.of Go.Proofs.Try.func18 (by kernel_rfl), by kernel_rfl, fun r hr => absurd hr (by simp [fd18]), fun r hr => absurd hr (by simp [fd18])⟩
theorem fa68 : FdOk Go.Proofs.Try.prog fd68 ∧ E.ld 68 = none ∧ (∀ r ∈ fd68.loops, E.ld r.2.lid = some ⟨68, r.1, r.2, false⟩) ∧ ∀ r ∈ fd68.joins, E.ld r.2.lid = some ⟨68, r.1, r.2, true⟩ :=
  ⟨FdOk.of Go.Proofs.Try.func68 (by kernel_rfl), by kernel_rfl, fun r hr => by
    simp only [fd68, List.mem_cons, List.not_mem_nil, or_false] at hr
    subst hr; kernel_rfl, fun r hr => absurd hr (by simp [fd68])⟩
theorem fa19 : FdOk Go.Proofs.Try.prog fd19 ∧ E.ld 19 = none ∧ (∀ r ∈ fd19.loops, E.ld r.2.lid = some ⟨19, r.1, r.2, false⟩) ∧ ∀ r ∈ fd19.joins, E.ld r.2.lid = some ⟨19, r.1, r.2, true⟩ :=
  ⟨FdOk.of Go.Proofs.Try.func19 (by kernel_rfl), by kernel_rfl, fun r hr => absurd hr (by simp [fd19]), fun r hr => absurd hr (by simp [fd19])⟩
theorem fa72 : FdOk Go.Proofs.Try.prog fd72 ∧ E.ld 72 = none ∧ (∀ r ∈ fd72.loops, E.ld r.2.lid = some ⟨72, r.1, r.2, false⟩) ∧ ∀ r ∈ fd72.joins, E.ld r.2.lid = some ⟨72, r.1, r.2, true⟩ :=
  ⟨FdOk.of Go.Proofs.Try.func72 (by kernel_rfl), by kernel_rfl, fun r hr => by
    simp only [fd72, List.mem_cons, List.not_mem_nil, or_false] at hr
    subst hr; kernel_rfl, fun r hr => absurd hr (by simp [fd72])⟩
theorem fa70 : FdOk Go.Proofs.Try.prog fd70 ∧ E.ld 70 = none ∧ (∀ r ∈ fd70.loops, E.ld r.2.lid = some ⟨70, r.1, r.2, false⟩) ∧ ∀ r ∈ fd70.joins, E.ld r.2.lid = some ⟨70, r.1, r.2, true⟩ :=
  ⟨FdOk.of Go.Proofs.Try.func70 (by kernel_rfl), by kernel_rfl, fun r hr => absurd hr (by simp [fd70]), fun r hr => absurd hr (by simp [fd70])⟩
theorem fa20 : FdOk Go.Proofs.Try.prog fd20 ∧ E.ld 20 = none ∧ (∀ r ∈ fd20.loops, E.ld r.2.lid = some ⟨20, r.1, r.2, false⟩) ∧ ∀ r ∈ fd20.joins, E.ld r.2.lid = some ⟨20, r.1, r.2, true⟩ :=
  ⟨FdOk.of Go.Proofs.Try.func20 (by kernel_rfl), by kernel_rfl, fun r hr => absurd hr (by simp [fd20]), fun r hr => absurd hr (by simp [fd20])⟩
theorem fa75 : FdOk Go.Proofs.Try.prog fd75 ∧ E.ld 75 = none ∧ (∀ r ∈ fd75.loops, E.ld r.2.lid = some ⟨75, r.1, r.2, false⟩) ∧ ∀ r ∈ fd75.joins, E.ld r.2.lid = some ⟨75, r.1, r.2, true⟩ :=
  ⟨FdOk.of Go.Proofs.Try.func75 (by kernel_rfl), by kernel_rfl, fun r hr => by
    simp only [fd75, List.mem_cons, List.not_mem_nil, or_false] at hr
    rcases hr with rfl | rfl <;> kernel_rfl, fun r hr => absurd hr (by simp [fd75])⟩
theorem fa71 : FdOk Go.Proofs.Try.prog fd71 ∧ E.ld 71 = none ∧ (∀ r ∈ fd71.loops, E.ld r.2.lid = some ⟨71, r.1, r.2, false⟩) ∧ ∀ r ∈ fd71.joins, E.ld r.2.lid = some ⟨71, r.1, r.2, true⟩ :=
  ⟨FdOk.of Go.Proofs.Try.func71 (by kernel_rfl), by kernel_rfl, fun r hr => absurd hr (by simp [fd71]), fun r hr => absurd hr (by simp [fd71])⟩
theorem fa21 : FdOk Go.Proofs.Try.prog fd21 ∧ E.ld 21 = none ∧ (∀ r ∈ fd21.loops, E.ld r.2.lid = some ⟨21, r.1, r.2, false⟩) ∧ ∀ r ∈ fd21.joins, E.ld r.2.lid = some ⟨21, r.1, r.2, true⟩ :=
  ⟨FdOk.of Go.Proofs.Try.func21 (by kernel_rfl), by kernel_rfl, fun r hr => absurd hr (by simp [fd21]), fun r hr => absurd hr (by simp [fd21])⟩
theorem fa22 : FdOk Go.Proofs.Try.prog fd22 ∧ E.ld 22 = none ∧ (∀ r ∈ fd22.loops, E.ld r.2.lid = some ⟨22, r.1, r.2, false⟩) ∧ ∀ r ∈ fd22.joins, E.ld r.2.lid = some ⟨22, r.1, r.2, true⟩ :=
  ⟨FdOk.of Go.Proofs.Try.func22 (by kernel_rfl), by kernel_rfl, fun r hr => absurd hr (by simp [fd22]), fun r hr => absurd hr (by simp [fd22])⟩
theorem fa23 : FdOk Go.Proofs.Try.prog fd23 ∧ E.ld 23 = none ∧ (∀ r ∈ fd23.loops, E.ld r.2.lid = some ⟨23, r.1, r.2, false⟩) ∧ ∀ r ∈ fd23.joins, E.ld r.2.lid = some ⟨23, r.1, r.2, true⟩ :=
  ⟨FdOk.of Go.Proofs.Try.func23 (by kernel_rfl), by kernel_rfl, fun r hr => absurd hr (by simp [fd23]), fun r hr => absurd hr (by simp [fd23])⟩
theorem fa132 : FdOk Go.Proofs.Try.prog fd132 ∧ E.ld 132 = none ∧ (∀ r ∈ fd132.loops, E.ld r.2.lid = some ⟨132, r.1, r.2, false⟩) ∧ ∀ r ∈ fd132.joins, E.ld r.2.lid = some ⟨132, r.1, r.2, true⟩ :=
  ⟨FdOk.of Go.Proofs.Try.func132 (by kernel_rfl), by kernel_rfl, fun r hr => by
    simp only [fd132, List.mem_cons, List.not_mem_nil, or_false] at hr
    subst hr; kernel_rfl, fun r hr => absurd hr (by simp [fd132])⟩
theorem fa118 : FdOk Go.Proofs.Try.prog fd118 ∧ E.ld 118 = none ∧ (∀ r ∈ fd118.loops, E.ld r.2.lid = some ⟨118, r.1, r.2, false⟩) ∧ ∀ r ∈ fd118.joins, E.ld r.2.lid = some ⟨118, r.1, r.2, true⟩ :=
  ⟨FdOk.of Go.Proofs.Try.func118 (by kernel_rfl), by kernel_rfl, fun r hr => absurd hr (by simp [fd118]), fun r hr => absurd hr (by simp [fd118])⟩
theorem fa99 : FdOk Go.Proofs.Try.prog fd99 ∧ E.ld 99 = none ∧ (∀ r ∈ fd99.loops, E.ld r.2.lid = some ⟨99, r.1, r.2, false⟩) ∧ ∀ r ∈ fd99.joins, E.ld r.2.lid = some ⟨99, r.1, r.2, true⟩ :=
  ⟨FdOk.of Go.Proofs.Try.func99 (by kernel_rfl), by kernel_rfl, fun r hr => absurd hr (by simp [fd99]), fun r hr => absurd hr (by simp [fd99])⟩
theorem fa151 : FdOk Go.Proofs.Try.prog fd151 ∧ E.ld 151 = none ∧ (∀ r ∈ fd151.loops, E.ld r.2.lid = some ⟨151, r.1, r.2, false⟩) ∧ ∀ r ∈ fd151.joins, E.ld r.2.lid = some ⟨151, r.1, r.2, true⟩ :=
  ⟨FdOk.of Go.Proofs.Try.func151 (by kernel_rfl), by kernel_rfl, fun r hr => by
    simp only [fd151, List.mem_cons, List.not_mem_nil, or_false] at hr
    subst hr; kernel_rfl, fun r hr => absurd hr (by simp [fd151])⟩
theorem fa137 : FdOk Go.Proofs.Try.prog fd137 ∧ E.ld 137 = none ∧ (∀ r ∈ fd137.loops, E.ld r.2.lid = some ⟨137, r.1, r.2, false⟩) ∧ ∀ r ∈ fd137.joins, E.ld r.2.lid = some ⟨137, r.1, r.2, true⟩ :=
  ⟨FdOk.of Go.Proofs.Try.func137 (by kernel_rfl), by kernel_rfl, fun r hr => absurd hr (by simp [fd137]), fun r hr => absurd hr (by simp [fd137])⟩
theorem fa95 : FdOk Go.Proofs.Try.prog fd95 ∧ E.ld 95 = none ∧ (∀ r ∈ fd95.loops, E.ld r.2.lid = some ⟨95, r.1, r.2, false⟩) ∧ ∀ r ∈ fd95.joins, E.ld r.2.lid = some ⟨95, r.1, r.2, true⟩ :=
  ⟨FdOk.of Go.Proofs.Try.func95 (by kernel_rfl), by kernel_rfl, fun r hr => by
    simp only [fd95, List.mem_cons, List.not_mem_nil, or_false] at hr
    subst hr; kernel_rfl, fun r hr => absurd hr (by simp [fd95])⟩
theorem fa150 : FdOk Go.Proofs.Try.prog fd150 ∧ E.ld 150 = none ∧ (∀ r ∈ fd150.loops, E.ld r.2.lid = some ⟨150, r.1, r.2, false⟩) ∧ ∀ r ∈ fd150.joins, E.ld r.2.lid = some ⟨150, r.1, r.2, true⟩ :=
  ⟨FdOk.of Go.Proofs.Try.func150 (by kernel_rfl), by kernel_rfl, fun r hr => by
    simp only [fd150, List.mem_cons, List.not_mem_nil, or_false] at hr
    subst hr; kernel_rfl, fun r hr => absurd hr (by simp [fd150])⟩
theorem fa136 : FdOk Go.Proofs.Try.prog fd136 ∧ E.ld 136 = none ∧ (∀ r ∈ fd136.loops, E.ld r.2.lid = some ⟨136, r.1, r.2, false⟩) ∧ ∀ r ∈ fd136.joins, E.ld r.2.lid = some ⟨136, r.1, r.2, true⟩ :=
  ⟨FdOk.of Go.Proofs.Try.func136 (by kernel_rfl), by kernel_rfl, fun r hr => absurd hr (by simp [fd136]), fun r hr => absurd hr (by simp [fd136])⟩
theorem fa101 : FdOk Go.Proofs.Try.prog fd101 ∧ E.ld 101 = none ∧ (∀ r ∈ fd101.loops, E.ld r.2.lid = some ⟨101, r.1, r.2, false⟩) ∧ ∀ r ∈ fd101.joins, E.ld r.2.lid = some ⟨101, r.1, r.2, true⟩ :=
  ⟨FdOk.of Go.Proofs.Try.func101 (by kernel_rfl), by kernel_rfl, fun r hr => absurd hr (by simp [fd101]), fun r hr => absurd hr (by simp [fd101])⟩
theorem fa133 : FdOk Go.Proofs.Try.prog fd133 ∧ E.ld 133 = none ∧ (∀ r ∈ fd133.loops, E.ld r.2.lid = some ⟨133, r.1, r.2, false⟩) ∧ ∀ r ∈ fd133.joins, E.ld r.2.lid = some ⟨133, r.1, r.2, true⟩ :=
  ⟨FdOk.of Go.Proofs.Try.func133 (by kernel_rfl), by kernel_rfl, fun r hr => absurd hr (by simp [fd133]), fun r hr => absurd hr (by simp [fd133])⟩
theorem fa134 : FdOk Go.Proofs.Try.prog fd134 ∧ E.ld 134 = none ∧ (∀ r ∈ fd134.loops, E.ld r.2.lid = some ⟨134, r.1, r.2, false⟩) ∧ ∀ r ∈ fd134.joins, E.ld r.2.lid = some ⟨134, r.1, r.2, true⟩ :=
  ⟨FdOk.of Go.Proofs.Try.func134 (by kernel_rfl), by kernel_rfl, fun r hr => by
    simp only [fd134, List.mem_cons, List.not_mem_nil, or_false] at hr
    subst hr; kernel_rfl, fun r hr => absurd hr (by simp [fd134])⟩
theorem fa135 : FdOk Go.Proofs.Try.prog fd135 ∧ E.ld 135 = none ∧ (∀ r ∈ fd135.loops, E.ld r.2.lid = some ⟨135, r.1, r.2, false⟩) ∧ ∀ r ∈ fd135.joins, E.ld r.2.lid = some ⟨135, r.1, r.2, true⟩ :=
  ⟨FdOk.of Go.Proofs.Try.func135 (by kernel_rfl), by kernel_rfl, fun r hr => by
    simp only [fd135, List.mem_cons, List.not_mem_nil, or_false] at hr
    rcases hr with rfl | rfl <;> kernel_rfl, fun r hr => absurd hr (by simp [fd135])⟩
theorem fa130 : FdOk Go.Proofs.Try.prog fd130 ∧ E.ld 130 = none ∧ (∀ r ∈ fd130.loops, E.ld r.2.lid = some ⟨130, r.1, r.2, false⟩) ∧ ∀ r ∈ fd130.joins, E.ld r.2.lid = some ⟨130, r.1, r.2, true⟩ :=
  ⟨FdOk.of Go.Proofs.Try.func130 (by kernel_rfl), by kernel_rfl, fun r hr => by
    simp only [fd130, List.mem_cons, List.not_mem_nil, or_false] at hr
    subst hr; kernel_rfl, fun r hr => absurd hr (by simp [fd130])⟩
theorem fa100 : FdOk Go.Proofs.Try.prog fd100 ∧ E.ld 100 = none ∧ (∀ r ∈ fd100.loops, E.ld r.2.lid = some ⟨100, r.1, r.2, false⟩) ∧ ∀ r ∈ fd100.joins, E.ld r.2.lid = some ⟨100, r.1, r.2, true⟩ :=
  ⟨FdOk.of Go.Proofs.Try.func100 (by kernel_rfl), by kernel_rfl, fun r hr => by
    simp only [fd100, List.mem_cons, List.not_mem_nil, or_false] at hr
    rcases hr with rfl | rfl <;> kernel_rfl, fun r hr => absurd hr (by simp [fd100])⟩
theorem fa119 : FdOk Go.Proofs.Try.prog fd119 ∧ E.ld 119 = none ∧ (∀ r ∈ fd119.loops, E.ld r.2.lid = some ⟨119, r.1, r.2, false⟩) ∧ ∀ r ∈ fd119.joins, E.ld r.2.lid = some ⟨119, r.1, r.2, true⟩ :=
  ⟨FdOk.of Go.Proofs.Try.func119 (by kernel_rfl), by kernel_rfl, fun r hr => by
    simp only [fd119, List.mem_cons, List.not_mem_nil, or_false] at hr
    rcases hr with rfl | rfl | rfl <;> kernel_rfl, fun r hr => absurd hr (by simp [fd119])⟩
theorem fa148 : FdOk Go.Proofs.Try.prog fd148 ∧ E.ld 148 = none ∧ (∀ r ∈ fd148.loops, E.ld r.2.lid = some ⟨148, r.1, r.2, false⟩) ∧ ∀ r ∈ fd148.joins, E.ld r.2.lid = some ⟨148, r.1, r.2, true⟩ :=
  ⟨FdOk.of Go.Proofs.Try.func148 (by kernel_rfl), by kernel_rfl, fun r hr => by
    simp only [fd148, List.mem_cons, List.not_mem_nil, or_false] at hr
    subst hr; kernel_rfl, fun r hr => absurd hr (by simp [fd148])⟩
theorem fa120 : FdOk Go.Proofs.Try.prog fd120 ∧ E.ld 120 = none ∧ (∀ r ∈ fd120.loops, E.ld r.2.lid = some ⟨120, r.1, r.2, false⟩) ∧ ∀ r ∈ fd120.joins, E.ld r.2.lid = some ⟨120, r.1, r.2, true⟩ :=
  ⟨FdOk.of Go.Proofs.Try.func120 (by kernel_rfl), by kernel_rfl, fun r hr => by
    simp only [fd120, List.mem_cons, List.not_mem_nil, or_false] at hr
    subst hr; kernel_rfl, fun r hr => absurd hr (by simp [fd120])⟩
theorem fa73 : FdOk Go.Proofs.Try.prog fd73 ∧ E.ld 73 = none ∧ (∀ r ∈ fd73.loops, E.ld r.2.lid = some ⟨73, r.1, r.2, false⟩) ∧ ∀ r ∈ fd73.joins, E.ld r.2.lid = some ⟨73, r.1, r.2, true⟩ :=
  ⟨FdOk.of Go.Proofs.Try.func73 (by kernel_rfl), by kernel_rfl, fun r hr => by
    simp only [fd73, List.mem_cons, List.not_mem_nil, or_false] at hr
    subst hr; kernel_rfl, fun r hr => absurd hr (by simp [fd73])⟩
theorem fa74 : FdOk Go.Proofs.Try.prog fd74 ∧ E.ld 74 = none ∧ (∀ r ∈ fd74.loops, E.ld r.2.lid = some ⟨74, r.1, r.2, false⟩) ∧ ∀ r ∈ fd74.joins, E.ld r.2.lid = some ⟨74, r.1, r.2, true⟩ :=
  ⟨FdOk.of Go.Proofs.Try.func74 (by kernel_rfl), by kernel_rfl, fun r hr => by
    simp only [fd74, List.mem_cons, List.not_mem_nil, or_false] at hr
    subst hr; kernel_rfl, fun r hr => absurd hr (by simp [fd74])⟩
theorem fa24 : FdOk Go.Proofs.Try.prog fd24 ∧ E.ld 24 = none ∧ (∀ r ∈ fd24.loops, E.ld r.2.lid = some ⟨24, r.1, r.2, false⟩) ∧ ∀ r ∈ fd24.joins, E.ld r.2.lid = some ⟨24, r.1, r.2, true⟩ :=
  ⟨FdOk.of Go.Proofs.Try.func24 (by kernel_rfl), by kernel_rfl, fun r hr => absurd hr (by simp [fd24]), fun r hr => absurd hr (by simp [fd24])⟩
theorem fa25 : FdOk Go.Proofs.Try.prog fd25 ∧ E.ld 25 = none ∧ (∀ r ∈ fd25.loops, E.ld r.2.lid = some ⟨25, r.1, r.2, false⟩) ∧ ∀ r ∈ fd25.joins, E.ld r.2.lid = some ⟨25, r.1, r.2, true⟩ :=
  ⟨FdOk.of Go.Proofs.Try.func25 (by kernel_rfl), by kernel_rfl, fun r hr => absurd hr (by simp [fd25]), fun r hr => absurd hr (by simp [fd25])⟩
theorem fa26 : FdOk Go.Proofs.Try.prog fd26 ∧ E.ld 26 = none ∧ (∀ r ∈ fd26.loops, E.ld r.2.lid = some ⟨26, r.1, r.2, false⟩) ∧ ∀ r ∈ fd26.joins, E.ld r.2.lid = some ⟨26, r.1, r.2, true⟩ :=
  ⟨FdOk.of Go.Proofs.Try.func26 (by kernel_rfl), by kernel_rfl, fun r hr => absurd hr (by simp [fd26]), fun r hr => absurd hr (by simp [fd26])⟩
theorem fa110 : FdOk Go.Proofs.Try.prog fd110 ∧ E.ld 110 = none ∧ (∀ r ∈ fd110.loops, E.ld r.2.lid = some ⟨110, r.1, r.2, false⟩) ∧ ∀ r ∈ fd110.joins, E.ld r.2.lid = some ⟨110, r.1, r.2, true⟩ :=
  ⟨FdOk.of Go.Proofs.Try.func110 (by kernel_rfl), by kernel_rfl, fun r hr => by
    simp only [fd110, List.mem_cons, List.not_mem_nil, or_false] at hr
    subst hr; kernel_rfl, fun r hr => absurd hr (by simp [fd110])⟩
theorem fa104 : FdOk Go.Proofs.Try.prog fd104 ∧ E.ld 104 = none ∧ (∀ r ∈ fd104.loops, E.ld r.2.lid = some ⟨104, r.1, r.2, false⟩) ∧ ∀ r ∈ fd104.joins, E.ld r.2.lid = some ⟨104, r.1, r.2, true⟩ :=
  ⟨FdOk.of Go.Proofs.Try.func104 (by kernel_rfl), by kernel_rfl, fun r hr => absurd hr (by simp [fd104]), fun r hr => absurd hr (by simp [fd104])⟩
theorem fa76 : FdOk Go.Proofs.Try.prog fd76 ∧ E.ld 76 = none ∧ (∀ r ∈ fd76.loops, E.ld r.2.lid = some ⟨76, r.1, r.2, false⟩) ∧ ∀ r ∈ fd76.joins, E.ld r.2.lid = some ⟨76, r.1, r.2, true⟩ :=
  ⟨FdOk.of Go.Proofs.Try.func76 (by kernel_rfl), by kernel_rfl, fun r hr => absurd hr (by simp [fd76]), fun r hr => absurd hr (by simp [fd76])⟩
theorem fa27 : FdOk Go.Proofs.Try.prog fd27 ∧ E.ld 27 = none ∧ (∀ r ∈ fd27.loops, E.ld r.2.lid = some ⟨27, r.1, r.2, false⟩) ∧ ∀ r ∈ fd27.joins, E.ld r.2.lid = some ⟨27, r.1, r.2, true⟩ :=
  ⟨FdOk.of Go.Proofs.Try.func27 (by kernel_rfl), by kernel_rfl, fun r hr => absurd hr (by simp [fd27]), fun r hr => absurd hr (by simp [fd27])⟩
theorem fa28 : FdOk Go.Proofs.Try.prog fd28 ∧ E.ld 28 = none ∧ (∀ r ∈ fd28.loops, E.ld r.2.lid = some ⟨28, r.1, r.2, false⟩) ∧ ∀ r ∈ fd28.joins, E.ld r.2.lid = some ⟨28, r.1, r.2, true⟩ :=
  ⟨FdOk.of Go.Proofs.Try.func28 (by kernel_rfl), by kernel_rfl, fun r hr => absurd hr (by simp [fd28]), fun r hr => absurd hr (by simp [fd28])⟩
theorem fa3 : FdOk Go.Proofs.Try.prog fd3 ∧ E.ld 3 = none ∧ (∀ r ∈ fd3.loops, E.ld r.2.lid = some ⟨3, r.1, r.2, false⟩) ∧ ∀ r ∈ fd3.joins, E.ld r.2.lid = some ⟨3, r.1, r.2, true⟩ :=
  ⟨FdOk.of Go.Proofs.Try.func3 (by kernel_rfl), by kernel_rfl, fun r hr => absurd hr (by simp [fd3]), fun r hr => by
    simp only [fd3, List.mem_cons, List.not_mem_nil, or_false] at hr
    rcases hr with rfl | rfl <;> kernel_rfl⟩
theorem envOk : EnvOk Go.Proofs.Try.prog E := EnvOk.of (envTy_of rfl tyOk strOk) (by kernel_rfl) rfl (by
  simp only [fdTab, List.forall_mem_cons]
  exact ⟨fa6, fa55, fa60, fa61, fa82, fa69, fa87, fa111, fa54, fa7, fa97, fa96, fa112, fa56, fa91, fa113, fa57, fa8, fa114, fa58, fa115, fa59, fa9, fa10, fa65, fa62, fa11, fa63, fa12, fa13, fa14, fa147, fa117, fa10000, fa64, fa15, fa16, fa66, fa17, fa67, fa18, fa68, fa19, fa72, fa70, fa20, fa75, fa71, fa21, fa22, fa23, fa132, fa118, fa99, fa151, fa137, fa95, fa150, fa136, fa101, fa133, fa134, fa135, fa130, fa100, fa119, fa148, fa120, fa73, fa74, fa24, fa25, fa26, fa110, fa104, fa76, fa27, fa28, fa3, fun q hq => absurd hq (by simp)⟩)
end Go.Ev.Yteclcmiopobnaaa
