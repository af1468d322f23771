/- The evaluator's tables are the program's. -/
import Derived.KernelRfl
import Derived.Test.YtffepojldjodcaaEnv
import Derived.Test.YtffepojldjodcaaV3
set_option linter.unusedVariables false
namespace Go.Ev.Ytffepojldjodcaa
open Go.Ev
theorem tyOk : tyTab.all (fun q => tyOkB Go.Proofs.Try.prog q.2 q.1) = true := by kernel_rfl
theorem fa14 : FdOk Go.Proofs.Try.prog fd14 ∧ E.ld 14 = none ∧ ∀ r ∈ fd14.loops, E.ld r.2.lid = some ⟨14, r.1, r.2⟩ :=
  ⟨FdOk.of Go.Proofs.Try.func14 (by kernel_rfl), by kernel_rfl, fun r hr => by
    simp only [fd14, List.mem_cons, List.not_mem_nil, or_false] at hr
    subst hr; kernel_rfl⟩
theorem fa76 : FdOk Go.Proofs.Try.prog fd76 ∧ E.ld 76 = none ∧ ∀ r ∈ fd76.loops, E.ld r.2.lid = some ⟨76, r.1, r.2⟩ :=
  ⟨FdOk.of Go.Proofs.Try.func76 (by kernel_rfl), by kernel_rfl, fun r hr => absurd hr (by simp [fd76])⟩
theorem fa46 : FdOk Go.Proofs.Try.prog fd46 ∧ E.ld 46 = none ∧ ∀ r ∈ fd46.loops, E.ld r.2.lid = some ⟨46, r.1, r.2⟩ :=
  ⟨FdOk.of Go.Proofs.Try.func46 (by kernel_rfl), by kernel_rfl, fun r hr => by
    simp only [fd46, List.mem_cons, List.not_mem_nil, or_false] at hr
    subst hr; kernel_rfl⟩
theorem fa13 : FdOk Go.Proofs.Try.prog fd13 ∧ E.ld 13 = none ∧ ∀ r ∈ fd13.loops, E.ld r.2.lid = some ⟨13, r.1, r.2⟩ :=
  ⟨FdOk.of Go.Proofs.Try.func13 (by kernel_rfl), by kernel_rfl, fun r hr => absurd hr (by simp [fd13])⟩
theorem fa77 : FdOk Go.Proofs.Try.prog fd77 ∧ E.ld 77 = none ∧ ∀ r ∈ fd77.loops, E.ld r.2.lid = some ⟨77, r.1, r.2⟩ :=
  ⟨FdOk.of Go.Proofs.Try.func77 (by kernel_rfl), by kernel_rfl, fun r hr => absurd hr (by simp [fd77])⟩
theorem fa47 : FdOk Go.Proofs.Try.prog fd47 ∧ E.ld 47 = none ∧ ∀ r ∈ fd47.loops, E.ld r.2.lid = some ⟨47, r.1, r.2⟩ :=
  ⟨FdOk.of Go.Proofs.Try.func47 (by kernel_rfl), by kernel_rfl, fun r hr => absurd hr (by simp [fd47])⟩
theorem fa48 : FdOk Go.Proofs.Try.prog fd48 ∧ E.ld 48 = none ∧ ∀ r ∈ fd48.loops, E.ld r.2.lid = some ⟨48, r.1, r.2⟩ :=
  ⟨FdOk.of Go.Proofs.Try.func48 (by kernel_rfl), by kernel_rfl, fun r hr => absurd hr (by simp [fd48])⟩
theorem fa15 : FdOk Go.Proofs.Try.prog fd15 ∧ E.ld 15 = none ∧ ∀ r ∈ fd15.loops, E.ld r.2.lid = some ⟨15, r.1, r.2⟩ :=
  ⟨FdOk.of Go.Proofs.Try.func15 (by kernel_rfl), by kernel_rfl, fun r hr => by
    simp only [fd15, List.mem_cons, List.not_mem_nil, or_false] at hr
    subst hr; kernel_rfl⟩
theorem fa16 : FdOk Go.Proofs.Try.prog fd16 ∧ E.ld 16 = none ∧ ∀ r ∈ fd16.loops, E.ld r.2.lid = some ⟨16, r.1, r.2⟩ :=
  ⟨FdOk.of Go.Proofs.Try.func16 (by kernel_rfl), by kernel_rfl, fun r hr => by
    simp only [fd16, List.mem_cons, List.not_mem_nil, or_false] at hr
    subst hr; kernel_rfl⟩
theorem fa3 : FdOk Go.Proofs.Try.prog fd3 ∧ E.ld 3 = none ∧ ∀ r ∈ fd3.loops, E.ld r.2.lid = some ⟨3, r.1, r.2⟩ :=
  ⟨FdOk.of Go.Proofs.Try.func3 (by kernel_rfl), by kernel_rfl, fun r hr => absurd hr (by simp [fd3])⟩
theorem fa49 : FdOk Go.Proofs.Try.prog fd49 ∧ E.ld 49 = none ∧ ∀ r ∈ fd49.loops, E.ld r.2.lid = some ⟨49, r.1, r.2⟩ :=
  ⟨FdOk.of Go.Proofs.Try.func49 (by kernel_rfl), by kernel_rfl, fun r hr => absurd hr (by simp [fd49])⟩
theorem fa17 : FdOk Go.Proofs.Try.prog fd17 ∧ E.ld 17 = none ∧ ∀ r ∈ fd17.loops, E.ld r.2.lid = some ⟨17, r.1, r.2⟩ :=
  ⟨FdOk.of Go.Proofs.Try.func17 (by kernel_rfl), by kernel_rfl, fun r hr => absurd hr (by simp [fd17])⟩
theorem fa19 : FdOk Go.Proofs.Try.prog fd19 ∧ E.ld 19 = none ∧ ∀ r ∈ fd19.loops, E.ld r.2.lid = some ⟨19, r.1, r.2⟩ :=
  ⟨FdOk.of Go.Proofs.Try.func19 (by kernel_rfl), by kernel_rfl, fun r hr => absurd hr (by simp [fd19])⟩
theorem fa50 : FdOk Go.Proofs.Try.prog fd50 ∧ E.ld 50 = none ∧ ∀ r ∈ fd50.loops, E.ld r.2.lid = some ⟨50, r.1, r.2⟩ :=
  ⟨FdOk.of Go.Proofs.Try.func50 (by kernel_rfl), by kernel_rfl, fun r hr => by
    simp only [fd50, List.mem_cons, List.not_mem_nil, or_false] at hr
    subst hr; kernel_rfl⟩
theorem fa78 : FdOk Go.Proofs.Try.prog fd78 ∧ E.ld 78 = none ∧ ∀ r ∈ fd78.loops, E.ld r.2.lid = some ⟨78, r.1, r.2⟩ :=
  ⟨FdOk.of Go.Proofs.Try.func78 (by kernel_rfl), by kernel_rfl, fun r hr => absurd hr (by simp [fd78])⟩
theorem fa51 : FdOk Go.Proofs.Try.prog fd51 ∧ E.ld 51 = none ∧ ∀ r ∈ fd51.loops, E.ld r.2.lid = some ⟨51, r.1, r.2⟩ :=
  ⟨FdOk.of Go.Proofs.Try.func51 (by kernel_rfl), by kernel_rfl, fun r hr => by
    simp only [fd51, List.mem_cons, List.not_mem_nil, or_false] at hr
    rcases hr with rfl | rfl <;> kernel_rfl⟩
theorem fa18 : FdOk Go.Proofs.Try.prog fd18 ∧ E.ld 18 = none ∧ ∀ r ∈ fd18.loops, E.ld r.2.lid = some ⟨18, r.1, r.2⟩ :=
  ⟨FdOk.of Go.Proofs.Try.func18 (by kernel_rfl), by kernel_rfl, fun r hr => absurd hr (by simp [fd18])⟩
theorem fa79 : FdOk Go.Proofs.Try.prog fd79 ∧ E.ld 79 = none ∧ ∀ r ∈ fd79.loops, E.ld r.2.lid = some ⟨79, r.1, r.2⟩ :=
  ⟨FdOk.of Go.Proofs.Try.func79 (by kernel_rfl), by kernel_rfl, fun r hr => absurd hr (by simp [fd79])⟩
theorem fa52 : FdOk Go.Proofs.Try.prog fd52 ∧ E.ld 52 = none ∧ ∀ r ∈ fd52.loops, E.ld r.2.lid = some ⟨52, r.1, r.2⟩ :=
  ⟨FdOk.of Go.Proofs.Try.func52 (by kernel_rfl), by kernel_rfl, fun r hr => by
    simp only [fd52, List.mem_cons, List.not_mem_nil, or_false] at hr
    subst hr; kernel_rfl⟩
theorem fa74 : FdOk Go.Proofs.Try.prog fd74 ∧ E.ld 74 = none ∧ ∀ r ∈ fd74.loops, E.ld r.2.lid = some ⟨74, r.1, r.2⟩ :=
  ⟨FdOk.of Go.Proofs.Try.func74 (by kernel_rfl), by kernel_rfl, fun r hr => absurd hr (by simp [fd74])⟩
theorem fa53 : FdOk Go.Proofs.Try.prog fd53 ∧ E.ld 53 = none ∧ ∀ r ∈ fd53.loops, E.ld r.2.lid = some ⟨53, r.1, r.2⟩ :=
  ⟨FdOk.of Go.Proofs.Try.func53 (by kernel_rfl), by kernel_rfl, fun r hr => by
    simp only [fd53, List.mem_cons, List.not_mem_nil, or_false] at hr
    subst hr; kernel_rfl⟩
theorem fa54 : FdOk Go.Proofs.Try.prog fd54 ∧ E.ld 54 = none ∧ ∀ r ∈ fd54.loops, E.ld r.2.lid = some ⟨54, r.1, r.2⟩ :=
  ⟨FdOk.of Go.Proofs.Try.func54 (by kernel_rfl), by kernel_rfl, fun r hr => absurd hr (by simp [fd54])⟩
theorem fa20 : FdOk Go.Proofs.Try.prog fd20 ∧ E.ld 20 = none ∧ ∀ r ∈ fd20.loops, E.ld r.2.lid = some ⟨20, r.1, r.2⟩ :=
  ⟨FdOk.of Go.Proofs.Try.func20 (by kernel_rfl), by kernel_rfl, fun r hr => absurd hr (by simp [fd20])⟩
theorem fa21 : FdOk Go.Proofs.Try.prog fd21 ∧ E.ld 21 = none ∧ ∀ r ∈ fd21.loops, E.ld r.2.lid = some ⟨21, r.1, r.2⟩ :=
  ⟨FdOk.of Go.Proofs.Try.func21 (by kernel_rfl), by kernel_rfl, fun r hr => absurd hr (by simp [fd21])⟩
theorem fa4 : FdOk Go.Proofs.Try.prog fd4 ∧ E.ld 4 = none ∧ ∀ r ∈ fd4.loops, E.ld r.2.lid = some ⟨4, r.1, r.2⟩ :=
  ⟨FdOk.of Go.Proofs.Try.func4 (by kernel_rfl), by kernel_rfl, fun r hr => absurd hr (by simp [fd4])⟩
theorem fa55 : FdOk Go.Proofs.Try.prog fd55 ∧ E.ld 55 = none ∧ ∀ r ∈ fd55.loops, E.ld r.2.lid = some ⟨55, r.1, r.2⟩ :=
  ⟨FdOk.of Go.Proofs.Try.func55 (by kernel_rfl), by kernel_rfl, fun r hr => by
    simp only [fd55, List.mem_cons, List.not_mem_nil, or_false] at hr
    rcases hr with rfl | rfl <;> kernel_rfl⟩
theorem fa22 : FdOk Go.Proofs.Try.prog fd22 ∧ E.ld 22 = none ∧ ∀ r ∈ fd22.loops, E.ld r.2.lid = some ⟨22, r.1, r.2⟩ :=
  ⟨FdOk.of Go.Proofs.Try.func22 (by kernel_rfl), by kernel_rfl, fun r hr => absurd hr (by simp [fd22])⟩
theorem fa80 : FdOk Go.Proofs.Try.prog fd80 ∧ E.ld 80 = none ∧ ∀ r ∈ fd80.loops, E.ld r.2.lid = some ⟨80, r.1, r.2⟩ :=
  ⟨FdOk.of Go.Proofs.Try.func80 (by kernel_rfl), by kernel_rfl, fun r hr => by
    simp only [fd80, List.mem_cons, List.not_mem_nil, or_false] at hr
    subst hr; kernel_rfl⟩
theorem fa56 : FdOk Go.Proofs.Try.prog fd56 ∧ E.ld 56 = none ∧ ∀ r ∈ fd56.loops, E.ld r.2.lid = some ⟨56, r.1, r.2⟩ :=
  ⟨FdOk.of Go.Proofs.Try.func56 (by kernel_rfl), by kernel_rfl, fun r hr => by
    simp only [fd56, List.mem_cons, List.not_mem_nil, or_false] at hr
    subst hr; kernel_rfl⟩
theorem fa23 : FdOk Go.Proofs.Try.prog fd23 ∧ E.ld 23 = none ∧ ∀ r ∈ fd23.loops, E.ld r.2.lid = some ⟨23, r.1, r.2⟩ :=
  ⟨FdOk.of Go.Proofs.Try.func23 (by kernel_rfl), by kernel_rfl, fun r hr => absurd hr (by simp [fd23])⟩
theorem fa25 : FdOk Go.Proofs.Try.prog fd25 ∧ E.ld 25 = none ∧ ∀ r ∈ fd25.loops, E.ld r.2.lid = some ⟨25, r.1, r.2⟩ :=
  ⟨FdOk.of Go.Proofs.Try.func25 (by kernel_rfl), by kernel_rfl, fun r hr => by
    simp only [fd25, List.mem_cons, List.not_mem_nil, or_false] at hr
    subst hr; kernel_rfl⟩
theorem fa24 : FdOk Go.Proofs.Try.prog fd24 ∧ E.ld 24 = none ∧ ∀ r ∈ fd24.loops, E.ld r.2.lid = some ⟨24, r.1, r.2⟩ :=
  ⟨FdOk.of Go.Proofs.Try.func24 (by kernel_rfl), by kernel_rfl, fun r hr => absurd hr (by simp [fd24])⟩
theorem fa26 : FdOk Go.Proofs.Try.prog fd26 ∧ E.ld 26 = none ∧ ∀ r ∈ fd26.loops, E.ld r.2.lid = some ⟨26, r.1, r.2⟩ :=
  ⟨FdOk.of Go.Proofs.Try.func26 (by kernel_rfl), by kernel_rfl, fun r hr => by
    simp only [fd26, List.mem_cons, List.not_mem_nil, or_false] at hr
    subst hr; kernel_rfl⟩
theorem fa5 : FdOk Go.Proofs.Try.prog fd5 ∧ E.ld 5 = none ∧ ∀ r ∈ fd5.loops, E.ld r.2.lid = some ⟨5, r.1, r.2⟩ :=
  ⟨FdOk.of Go.Proofs.Try.func5 (by kernel_rfl), by kernel_rfl, fun r hr => absurd hr (by simp [fd5])⟩
theorem fa60 : FdOk Go.Proofs.Try.prog fd60 ∧ E.ld 60 = none ∧ ∀ r ∈ fd60.loops, E.ld r.2.lid = some ⟨60, r.1, r.2⟩ :=
  ⟨FdOk.of Go.Proofs.Try.func60 (by kernel_rfl), by kernel_rfl, fun r hr => absurd hr (by simp [fd60])⟩
theorem fa57 : FdOk Go.Proofs.Try.prog fd57 ∧ E.ld 57 = none ∧ ∀ r ∈ fd57.loops, E.ld r.2.lid = some ⟨57, r.1, r.2⟩ :=
  ⟨FdOk.of Go.Proofs.Try.func57 (by kernel_rfl), by kernel_rfl, fun r hr => by
    simp only [fd57, List.mem_cons, List.not_mem_nil, or_false] at hr
    subst hr; kernel_rfl⟩
theorem fa27 : FdOk Go.Proofs.Try.prog fd27 ∧ E.ld 27 = none ∧ ∀ r ∈ fd27.loops, E.ld r.2.lid = some ⟨27, r.1, r.2⟩ :=
  ⟨FdOk.of Go.Proofs.Try.func27 (by kernel_rfl), by kernel_rfl, fun r hr => absurd hr (by simp [fd27])⟩
theorem fa58 : FdOk Go.Proofs.Try.prog fd58 ∧ E.ld 58 = none ∧ ∀ r ∈ fd58.loops, E.ld r.2.lid = some ⟨58, r.1, r.2⟩ :=
  ⟨FdOk.of Go.Proofs.Try.func58 (by kernel_rfl), by kernel_rfl, fun r hr => by
    simp only [fd58, List.mem_cons, List.not_mem_nil, or_false] at hr
    subst hr; kernel_rfl⟩
theorem fa28 : FdOk Go.Proofs.Try.prog fd28 ∧ E.ld 28 = none ∧ ∀ r ∈ fd28.loops, E.ld r.2.lid = some ⟨28, r.1, r.2⟩ :=
  ⟨FdOk.of Go.Proofs.Try.func28 (by kernel_rfl), by kernel_rfl, fun r hr => absurd hr (by simp [fd28])⟩
theorem fa29 : FdOk Go.Proofs.Try.prog fd29 ∧ E.ld 29 = none ∧ ∀ r ∈ fd29.loops, E.ld r.2.lid = some ⟨29, r.1, r.2⟩ :=
  ⟨FdOk.of Go.Proofs.Try.func29 (by kernel_rfl), by kernel_rfl, fun r hr => absurd hr (by simp [fd29])⟩
theorem fa6 : FdOk Go.Proofs.Try.prog fd6 ∧ E.ld 6 = none ∧ ∀ r ∈ fd6.loops, E.ld r.2.lid = some ⟨6, r.1, r.2⟩ :=
  ⟨FdOk.of Go.Proofs.Try.func6 (by kernel_rfl), by kernel_rfl, fun r hr => absurd hr (by simp [fd6])⟩
theorem fa59 : FdOk Go.Proofs.Try.prog fd59 ∧ E.ld 59 = none ∧ ∀ r ∈ fd59.loops, E.ld r.2.lid = some ⟨59, r.1, r.2⟩ :=
  ⟨FdOk.of Go.Proofs.Try.func59 (by kernel_rfl), by kernel_rfl, fun r hr => by
    simp only [fd59, List.mem_cons, List.not_mem_nil, or_false] at hr
    subst hr; kernel_rfl⟩
theorem fa30 : FdOk Go.Proofs.Try.prog fd30 ∧ E.ld 30 = none ∧ ∀ r ∈ fd30.loops, E.ld r.2.lid = some ⟨30, r.1, r.2⟩ :=
  ⟨FdOk.of Go.Proofs.Try.func30 (by kernel_rfl), by kernel_rfl, fun r hr => absurd hr (by simp [fd30])⟩
theorem fa61 : FdOk Go.Proofs.Try.prog fd61 ∧ E.ld 61 = none ∧ ∀ r ∈ fd61.loops, E.ld r.2.lid = some ⟨61, r.1, r.2⟩ :=
  ⟨FdOk.of Go.Proofs.Try.func61 (by kernel_rfl), by kernel_rfl, fun r hr => by
    simp only [fd61, List.mem_cons, List.not_mem_nil, or_false] at hr
    subst hr; kernel_rfl⟩
theorem fa31 : FdOk Go.Proofs.Try.prog fd31 ∧ E.ld 31 = none ∧ ∀ r ∈ fd31.loops, E.ld r.2.lid = some ⟨31, r.1, r.2⟩ :=
  ⟨FdOk.of Go.Proofs.Try.func31 (by kernel_rfl), by kernel_rfl, fun r hr => absurd hr (by simp [fd31])⟩
theorem fa7 : FdOk Go.Proofs.Try.prog fd7 ∧ E.ld 7 = none ∧ ∀ r ∈ fd7.loops, E.ld r.2.lid = some ⟨7, r.1, r.2⟩ :=
  ⟨FdOk.of Go.Proofs.Try.func7 (by kernel_rfl), by kernel_rfl, fun r hr => absurd hr (by simp [fd7])⟩
theorem fa62 : FdOk Go.Proofs.Try.prog fd62 ∧ E.ld 62 = none ∧ ∀ r ∈ fd62.loops, E.ld r.2.lid = some ⟨62, r.1, r.2⟩ :=
  ⟨FdOk.of Go.Proofs.Try.func62 (by kernel_rfl), by kernel_rfl, fun r hr => absurd hr (by simp [fd62])⟩
theorem fa32 : FdOk Go.Proofs.Try.prog fd32 ∧ E.ld 32 = none ∧ ∀ r ∈ fd32.loops, E.ld r.2.lid = some ⟨32, r.1, r.2⟩ :=
  ⟨FdOk.of Go.Proofs.Try.func32 (by kernel_rfl), by kernel_rfl, fun r hr => absurd hr (by simp [fd32])⟩
theorem fa63 : FdOk Go.Proofs.Try.prog fd63 ∧ E.ld 63 = none ∧ ∀ r ∈ fd63.loops, E.ld r.2.lid = some ⟨63, r.1, r.2⟩ :=
  ⟨FdOk.of Go.Proofs.Try.func63 (by kernel_rfl), by kernel_rfl, fun r hr => absurd hr (by simp [fd63])⟩
theorem fa33 : FdOk Go.Proofs.Try.prog fd33 ∧ E.ld 33 = none ∧ ∀ r ∈ fd33.loops, E.ld r.2.lid = some ⟨33, r.1, r.2⟩ :=
  ⟨FdOk.of Go.Proofs.Try.func33 (by kernel_rfl), by kernel_rfl, fun r hr => absurd hr (by simp [fd33])⟩
theorem fa8 : FdOk Go.Proofs.Try.prog fd8 ∧ E.ld 8 = none ∧ ∀ r ∈ fd8.loops, E.ld r.2.lid = some ⟨8, r.1, r.2⟩ :=
  ⟨FdOk.of Go.Proofs.Try.func8 (by kernel_rfl), by kernel_rfl, fun r hr => absurd hr (by simp [fd8])⟩
theorem fa34 : FdOk Go.Proofs.Try.prog fd34 ∧ E.ld 34 = none ∧ ∀ r ∈ fd34.loops, E.ld r.2.lid = some ⟨34, r.1, r.2⟩ :=
  ⟨FdOk.of Go.Proofs.Try.func34 (by kernel_rfl), by kernel_rfl, fun r hr => absurd hr (by simp [fd34])⟩
theorem fa35 : FdOk Go.Proofs.Try.prog fd35 ∧ E.ld 35 = none ∧ ∀ r ∈ fd35.loops, E.ld r.2.lid = some ⟨35, r.1, r.2⟩ :=
  ⟨FdOk.of Go.Proofs.Try.func35 (by kernel_rfl), by kernel_rfl, fun r hr => absurd hr (by simp [fd35])⟩
theorem fa9 : FdOk Go.Proofs.Try.prog fd9 ∧ E.ld 9 = none ∧ ∀ r ∈ fd9.loops, E.ld r.2.lid = some ⟨9, r.1, r.2⟩ :=
  ⟨FdOk.of Go.Proofs.Try.func9 (by kernel_rfl), by kernel_rfl, fun r hr => absurd hr (by simp [fd9])⟩
theorem fa81 : FdOk Go.Proofs.Try.prog fd81 ∧ E.ld 81 = none ∧ ∀ r ∈ fd81.loops, E.ld r.2.lid = some ⟨81, r.1, r.2⟩ :=
  ⟨FdOk.of Go.Proofs.Try.func81 (by kernel_rfl), by kernel_rfl, fun r hr => by
    simp only [fd81, List.mem_cons, List.not_mem_nil, or_false] at hr
    subst hr; kernel_rfl⟩
theorem fa64 : FdOk Go.Proofs.Try.prog fd64 ∧ E.ld 64 = none ∧ ∀ r ∈ fd64.loops, E.ld r.2.lid = some ⟨64, r.1, r.2⟩ :=
  ⟨FdOk.of Go.Proofs.Try.func64 (by kernel_rfl), by kernel_rfl, fun r hr => absurd hr (by simp [fd64])⟩
theorem fa36 : FdOk Go.Proofs.Try.prog fd36 ∧ E.ld 36 = none ∧ ∀ r ∈ fd36.loops, E.ld r.2.lid = some ⟨36, r.1, r.2⟩ :=
  ⟨FdOk.of Go.Proofs.Try.func36 (by kernel_rfl), by kernel_rfl, fun r hr => absurd hr (by simp [fd36])⟩
theorem fa72 : FdOk Go.Proofs.Try.prog fd72 ∧ E.ld 72 = none ∧ ∀ r ∈ fd72.loops, E.ld r.2.lid = some ⟨72, r.1, r.2⟩ :=
  ⟨FdOk.of Go.Proofs.Try.func72 (by kernel_rfl), by kernel_rfl, fun r hr => by
    simp only [fd72, List.mem_cons, List.not_mem_nil, or_false] at hr
    subst hr; kernel_rfl⟩
theorem fa73 : FdOk Go.Proofs.Try.prog fd73 ∧ E.ld 73 = none ∧ ∀ r ∈ fd73.loops, E.ld r.2.lid = some ⟨73, r.1, r.2⟩ :=
  ⟨FdOk.of Go.Proofs.Try.func73 (by kernel_rfl), by kernel_rfl, fun r hr => absurd hr (by simp [fd73])⟩
theorem fa10000 : FdOk Go.Proofs.Try.prog fd10000 ∧ E.ld 10000 = none ∧ ∀ r ∈ fd10000.loops, E.ld r.2.lid = some ⟨10000, r.1, r.2⟩ :=
  ⟨FdOk.of Go.Proofs.Try.func71 (by kernel_rfl), by kernel_rfl, fun r hr => by
    simp only [fd10000, List.mem_cons, List.not_mem_nil, or_false] at hr
    subst hr; kernel_rfl⟩
theorem fa75 : FdOk Go.Proofs.Try.prog fd75 ∧ E.ld 75 = none ∧ ∀ r ∈ fd75.loops, E.ld r.2.lid = some ⟨75, r.1, r.2⟩ :=
  ⟨FdOk.of Go.Proofs.Try.func75 (by kernel_rfl), by kernel_rfl, fun r hr => absurd hr (by simp [fd75])⟩
theorem fa65 : FdOk Go.Proofs.Try.prog fd65 ∧ E.ld 65 = none ∧ ∀ r ∈ fd65.loops, E.ld r.2.lid = some ⟨65, r.1, r.2⟩ :=
  ⟨FdOk.of Go.Proofs.Try.func65 (by kernel_rfl), by kernel_rfl, fun r hr => absurd hr (by simp [fd65])⟩
theorem fa37 : FdOk Go.Proofs.Try.prog fd37 ∧ E.ld 37 = none ∧ ∀ r ∈ fd37.loops, E.ld r.2.lid = some ⟨37, r.1, r.2⟩ :=
  ⟨FdOk.of Go.Proofs.Try.func37 (by kernel_rfl), by kernel_rfl, fun r hr => absurd hr (by simp [fd37])⟩
theorem fa10 : FdOk Go.Proofs.Try.prog fd10 ∧ E.ld 10 = none ∧ ∀ r ∈ fd10.loops, E.ld r.2.lid = some ⟨10, r.1, r.2⟩ :=
  ⟨FdOk.of Go.Proofs.Try.func10 (by kernel_rfl), by kernel_rfl, fun r hr => absurd hr (by simp [fd10])⟩
theorem fa83 : FdOk Go.Proofs.Try.prog fd83 ∧ E.ld 83 = none ∧ ∀ r ∈ fd83.loops, E.ld r.2.lid = some ⟨83, r.1, r.2⟩ :=
  ⟨FdOk.of Go.Proofs.Try.func83 (by kernel_rfl), by kernel_rfl, fun r hr => by
    simp only [fd83, List.mem_cons, List.not_mem_nil, or_false] at hr
    rcases hr with rfl | rfl <;> kernel_rfl⟩
theorem fa69 : FdOk Go.Proofs.Try.prog fd69 ∧ E.ld 69 = none ∧ ∀ r ∈ fd69.loops, E.ld r.2.lid = some ⟨69, r.1, r.2⟩ :=
  ⟨FdOk.of Go.Proofs.Try.func69 (by kernel_rfl), by kernel_rfl, fun r hr => by
    simp only [fd69, List.mem_cons, List.not_mem_nil, or_false] at hr
    subst hr; kernel_rfl⟩
theorem fa44 : FdOk Go.Proofs.Try.prog fd44 ∧ E.ld 44 = none ∧ ∀ r ∈ fd44.loops, E.ld r.2.lid = some ⟨44, r.1, r.2⟩ :=
  ⟨FdOk.of Go.Proofs.Try.func44 (by kernel_rfl), by kernel_rfl, fun r hr => by
    simp only [fd44, List.mem_cons, List.not_mem_nil, or_false] at hr
    subst hr; kernel_rfl⟩
theorem fa84 : FdOk Go.Proofs.Try.prog fd84 ∧ E.ld 84 = none ∧ ∀ r ∈ fd84.loops, E.ld r.2.lid = some ⟨84, r.1, r.2⟩ :=
  ⟨FdOk.of Go.Proofs.Try.func84 (by kernel_rfl), by kernel_rfl, fun r hr => by
    simp only [fd84, List.mem_cons, List.not_mem_nil, or_false] at hr
    rcases hr with rfl | rfl <;> kernel_rfl⟩
theorem fa70 : FdOk Go.Proofs.Try.prog fd70 ∧ E.ld 70 = none ∧ ∀ r ∈ fd70.loops, E.ld r.2.lid = some ⟨70, r.1, r.2⟩ :=
  ⟨FdOk.of Go.Proofs.Try.func70 (by kernel_rfl), by kernel_rfl, fun r hr => absurd hr (by simp [fd70])⟩
theorem fa45 : FdOk Go.Proofs.Try.prog fd45 ∧ E.ld 45 = none ∧ ∀ r ∈ fd45.loops, E.ld r.2.lid = some ⟨45, r.1, r.2⟩ :=
  ⟨FdOk.of Go.Proofs.Try.func45 (by kernel_rfl), by kernel_rfl, fun r hr => by
    simp only [fd45, List.mem_cons, List.not_mem_nil, or_false] at hr
    rcases hr with rfl | rfl <;> kernel_rfl⟩
theorem fa12 : FdOk Go.Proofs.Try.prog fd12 ∧ E.ld 12 = none ∧ ∀ r ∈ fd12.loops, E.ld r.2.lid = some ⟨12, r.1, r.2⟩ :=
  ⟨FdOk.of Go.Proofs.Try.func12 (by kernel_rfl), by kernel_rfl, fun r hr => absurd hr (by simp [fd12])⟩
theorem envOk : EnvOk Go.Proofs.Try.prog E := EnvOk.of (envTy_of rfl tyOk) (by kernel_rfl) rfl (by
  simp only [fdTab, List.forall_mem_cons]
  exact ⟨fa14, fa76, fa46, fa13, fa77, fa47, fa48, fa15, fa16, fa3, fa49, fa17, fa19, fa50, fa78, fa51, fa18, fa79, fa52, fa74, fa53, fa54, fa20, fa21, fa4, fa55, fa22, fa80, fa56, fa23, fa25, fa24, fa26, fa5, fa60, fa57, fa27, fa58, fa28, fa29, fa6, fa59, fa30, fa61, fa31, fa7, fa62, fa32, fa63, fa33, fa8, fa34, fa35, fa9, fa81, fa64, fa36, fa72, fa73, fa10000, fa75, fa65, fa37, fa10, fa83, fa69, fa44, fa84, fa70, fa45, fa12, fun q hq => absurd hq (by simp)⟩)
end Go.Ev.Ytffepojldjodcaa
