/- The evaluator's tables are the program's. -/
import Derived.KernelRfl
import Derived.Test.YtadjhggdddbicaaEnv
import Derived.Test.YtadjhggdddbicaaV5
set_option linter.unusedVariables false
namespace Go.Ev.Ytadjhggdddbicaa
open Go.Ev
theorem strOk : E.str.all (isStrB Go.Proofs.Try.prog) = true := by kernel_rfl
theorem tyOk : tyTab.all (fun q => tyOkB Go.Proofs.Try.prog q.2 q.1) = true := by kernel_rfl
theorem fa68 : FdOk Go.Proofs.Try.prog fd68 ∧ E.ld 68 = none ∧ (∀ r ∈ fd68.loops, E.ld r.2.lid = some ⟨68, r.1, r.2, false⟩) ∧ ∀ r ∈ fd68.joins, E.ld r.2.lid = some ⟨68, r.1, r.2, true⟩ :=
  ⟨FdOk.of Go.Proofs.Try.func68 (by kernel_rfl), by kernel_rfl, fun r hr => absurd hr (by simp [fd68]), fun r hr => absurd hr (by simp [fd68])⟩
theorem fa87 : FdOk Go.Proofs.Try.prog fd87 ∧ E.ld 87 = none ∧ (∀ r ∈ fd87.loops, E.ld r.2.lid = some ⟨87, r.1, r.2, false⟩) ∧ ∀ r ∈ fd87.joins, E.ld r.2.lid = some ⟨87, r.1, r.2, true⟩ :=
  ⟨FdOk.of Go.Proofs.Try.func87 (by kernel_rfl), by kernel_rfl, fun r hr => by
    simp only [fd87, List.mem_cons, List.not_mem_nil, or_false] at hr
    rcases hr with rfl | rfl | rfl | rfl <;> kernel_rfl, fun r hr => absurd hr (by simp [fd87])⟩
theorem fa88 : FdOk Go.Proofs.Try.prog fd88 ∧ E.ld 88 = none ∧ (∀ r ∈ fd88.loops, E.ld r.2.lid = some ⟨88, r.1, r.2, false⟩) ∧ ∀ r ∈ fd88.joins, E.ld r.2.lid = some ⟨88, r.1, r.2, true⟩ :=
  ⟨FdOk.of Go.Proofs.Try.func88 (by kernel_rfl), by kernel_rfl, fun r hr => by
    simp only [fd88, List.mem_cons, List.not_mem_nil, or_false] at hr
    rcases hr with rfl | rfl <;> kernel_rfl, fun r hr => absurd hr (by simp [fd88])⟩
theorem fa129 : FdOk Go.Proofs.Try.prog fd129 ∧ E.ld 129 = none ∧ (∀ r ∈ fd129.loops, E.ld r.2.lid = some ⟨129, r.1, r.2, false⟩) ∧ ∀ r ∈ fd129.joins, E.ld r.2.lid = some ⟨129, r.1, r.2, true⟩ :=
  ⟨FdOk.of Go.Proofs.Try.func129 (by kernel_rfl), by kernel_rfl, fun r hr => by
    simp only [fd129, List.mem_cons, List.not_mem_nil, or_false] at hr
    subst hr; kernel_rfl, fun r hr => absurd hr (by simp [fd129])⟩
theorem fa105 : FdOk Go.Proofs.Try.prog fd105 ∧ E.ld 105 = none ∧ (∀ r ∈ fd105.loops, E.ld r.2.lid = some ⟨105, r.1, r.2, false⟩) ∧ ∀ r ∈ fd105.joins, E.ld r.2.lid = some ⟨105, r.1, r.2, true⟩ :=
  ⟨FdOk.of Go.Proofs.Try.func105 (by kernel_rfl), by kernel_rfl, fun r hr => by
    simp only [fd105, List.mem_cons, List.not_mem_nil, or_false] at hr
    rcases hr with rfl | rfl <;> kernel_rfl, fun r hr => absurd hr (by simp [fd105])⟩
theorem fa53 : FdOk Go.Proofs.Try.prog fd53 ∧ E.ld 53 = none ∧ (∀ r ∈ fd53.loops, E.ld r.2.lid = some ⟨53, r.1, r.2, false⟩) ∧ ∀ r ∈ fd53.joins, E.ld r.2.lid = some ⟨53, r.1, r.2, true⟩ :=
  ⟨FdOk.of Go.Proofs.Try.func53 (by kernel_rfl), by kernel_rfl, fun r hr => absurd hr (by simp [fd53]), fun r hr => absurd hr (by simp [fd53])⟩
theorem fa70 : FdOk Go.Proofs.Try.prog fd70 ∧ E.ld 70 = none ∧ (∀ r ∈ fd70.loops, E.ld r.2.lid = some ⟨70, r.1, r.2, false⟩) ∧ ∀ r ∈ fd70.joins, E.ld r.2.lid = some ⟨70, r.1, r.2, true⟩ :=
  ⟨FdOk.of Go.Proofs.Try.func70 (by kernel_rfl), by kernel_rfl, fun r hr => absurd hr (by simp [fd70]), fun r hr => absurd hr (by simp [fd70])⟩
theorem fa124 : FdOk Go.Proofs.Try.prog fd124 ∧ E.ld 124 = none ∧ (∀ r ∈ fd124.loops, E.ld r.2.lid = some ⟨124, r.1, r.2, false⟩) ∧ ∀ r ∈ fd124.joins, E.ld r.2.lid = some ⟨124, r.1, r.2, true⟩ :=
  ⟨FdOk.of Go.Proofs.Try.func124 (by kernel_rfl), by kernel_rfl, fun r hr => by
    simp only [fd124, List.mem_cons, List.not_mem_nil, or_false] at hr
    subst hr; kernel_rfl, fun r hr => absurd hr (by simp [fd124])⟩
theorem fa90 : FdOk Go.Proofs.Try.prog fd90 ∧ E.ld 90 = none ∧ (∀ r ∈ fd90.loops, E.ld r.2.lid = some ⟨90, r.1, r.2, false⟩) ∧ ∀ r ∈ fd90.joins, E.ld r.2.lid = some ⟨90, r.1, r.2, true⟩ :=
  ⟨FdOk.of Go.Proofs.Try.func90 (by kernel_rfl), by kernel_rfl, fun r hr => absurd hr (by simp [fd90]), fun r hr => absurd hr (by simp [fd90])⟩
theorem fa78 : FdOk Go.Proofs.Try.prog fd78 ∧ E.ld 78 = none ∧ (∀ r ∈ fd78.loops, E.ld r.2.lid = some ⟨78, r.1, r.2, false⟩) ∧ ∀ r ∈ fd78.joins, E.ld r.2.lid = some ⟨78, r.1, r.2, true⟩ :=
  ⟨FdOk.of Go.Proofs.Try.func78 (by kernel_rfl), by kernel_rfl, fun r hr => by
    simp only [fd78, List.mem_cons, List.not_mem_nil, or_false] at hr
    rcases hr with rfl | rfl | rfl | rfl <;> kernel_rfl, fun r hr => absurd hr (by simp [fd78])⟩
theorem fa92 : FdOk Go.Proofs.Try.prog fd92 ∧ E.ld 92 = none ∧ (∀ r ∈ fd92.loops, E.ld r.2.lid = some ⟨92, r.1, r.2, false⟩) ∧ ∀ r ∈ fd92.joins, E.ld r.2.lid = some ⟨92, r.1, r.2, true⟩ :=
  ⟨FdOk.of Go.Proofs.Try.func92 (by kernel_rfl), by kernel_rfl, fun r hr => by
    simp only [fd92, List.mem_cons, List.not_mem_nil, or_false] at hr
    rcases hr with rfl | rfl <;> kernel_rfl, fun r hr => absurd hr (by simp [fd92])⟩
theorem fa107 : FdOk Go.Proofs.Try.prog fd107 ∧ E.ld 107 = none ∧ (∀ r ∈ fd107.loops, E.ld r.2.lid = some ⟨107, r.1, r.2, false⟩) ∧ ∀ r ∈ fd107.joins, E.ld r.2.lid = some ⟨107, r.1, r.2, true⟩ :=
  ⟨FdOk.of Go.Proofs.Try.func107 (by kernel_rfl), by kernel_rfl, fun r hr => absurd hr (by simp [fd107]), fun r hr => absurd hr (by simp [fd107])⟩
theorem fa10000 : FdOk Go.Proofs.Try.prog fd10000 ∧ E.ld 10000 = none ∧ (∀ r ∈ fd10000.loops, E.ld r.2.lid = some ⟨10000, r.1, r.2, false⟩) ∧ ∀ r ∈ fd10000.joins, E.ld r.2.lid = some ⟨10000, r.1, r.2, true⟩ :=
  ⟨FdOk.of Go.Proofs.Try.func106 (by kernel_rfl), by kernel_rfl, fun r hr => by
    simp only [fd10000, List.mem_cons, List.not_mem_nil, or_false] at hr
    subst hr; kernel_rfl, fun r hr => absurd hr (by simp [fd10000])⟩
theorem fa151 : FdOk Go.Proofs.Try.prog fd151 ∧ E.ld 151 = none ∧ (∀ r ∈ fd151.loops, E.ld r.2.lid = some ⟨151, r.1, r.2, false⟩) ∧ ∀ r ∈ fd151.joins, E.ld r.2.lid = some ⟨151, r.1, r.2, true⟩ :=
  ⟨FdOk.of Go.Proofs.Try.func151 (by kernel_rfl), by kernel_rfl, fun r hr => absurd hr (by simp [fd151]), fun r hr => absurd hr (by simp [fd151])⟩
theorem fa132 : FdOk Go.Proofs.Try.prog fd132 ∧ E.ld 132 = none ∧ (∀ r ∈ fd132.loops, E.ld r.2.lid = some ⟨132, r.1, r.2, false⟩) ∧ ∀ r ∈ fd132.joins, E.ld r.2.lid = some ⟨132, r.1, r.2, true⟩ :=
  ⟨FdOk.of Go.Proofs.Try.func132 (by kernel_rfl), by kernel_rfl, fun r hr => absurd hr (by simp [fd132]), fun r hr => absurd hr (by simp [fd132])⟩
theorem fa110 : FdOk Go.Proofs.Try.prog fd110 ∧ E.ld 110 = none ∧ (∀ r ∈ fd110.loops, E.ld r.2.lid = some ⟨110, r.1, r.2, false⟩) ∧ ∀ r ∈ fd110.joins, E.ld r.2.lid = some ⟨110, r.1, r.2, true⟩ :=
  ⟨FdOk.of Go.Proofs.Try.func110 (by kernel_rfl), by kernel_rfl, fun r hr => by
    simp only [fd110, List.mem_cons, List.not_mem_nil, or_false] at hr
    subst hr; kernel_rfl, fun r hr => absurd hr (by simp [fd110])⟩
theorem fa109 : FdOk Go.Proofs.Try.prog fd109 ∧ E.ld 109 = none ∧ (∀ r ∈ fd109.loops, E.ld r.2.lid = some ⟨109, r.1, r.2, false⟩) ∧ ∀ r ∈ fd109.joins, E.ld r.2.lid = some ⟨109, r.1, r.2, true⟩ :=
  ⟨FdOk.of Go.Proofs.Try.func109 (by kernel_rfl), by kernel_rfl, fun r hr => absurd hr (by simp [fd109]), fun r hr => absurd hr (by simp [fd109])⟩
theorem fa10001 : FdOk Go.Proofs.Try.prog fd10001 ∧ E.ld 10001 = none ∧ (∀ r ∈ fd10001.loops, E.ld r.2.lid = some ⟨10001, r.1, r.2, false⟩) ∧ ∀ r ∈ fd10001.joins, E.ld r.2.lid = some ⟨10001, r.1, r.2, true⟩ :=
  ⟨FdOk.of Go.Proofs.Try.func108 (by kernel_rfl), by kernel_rfl, fun r hr => absurd hr (by simp [fd10001]), fun r hr => absurd hr (by simp [fd10001])⟩
theorem fa54 : FdOk Go.Proofs.Try.prog fd54 ∧ E.ld 54 = none ∧ (∀ r ∈ fd54.loops, E.ld r.2.lid = some ⟨54, r.1, r.2, false⟩) ∧ ∀ r ∈ fd54.joins, E.ld r.2.lid = some ⟨54, r.1, r.2, true⟩ :=
  ⟨FdOk.of Go.Proofs.Try.func54 (by kernel_rfl), by kernel_rfl, fun r hr => absurd hr (by simp [fd54]), fun r hr => absurd hr (by simp [fd54])⟩
theorem fa28 : FdOk Go.Proofs.Try.prog fd28 ∧ E.ld 28 = none ∧ (∀ r ∈ fd28.loops, E.ld r.2.lid = some ⟨28, r.1, r.2, false⟩) ∧ ∀ r ∈ fd28.joins, E.ld r.2.lid = some ⟨28, r.1, r.2, true⟩ :=
  ⟨FdOk.of Go.Proofs.Try.func28 (by kernel_rfl), by kernel_rfl, fun r hr => by
    simp only [fd28, List.mem_cons, List.not_mem_nil, or_false] at hr
    subst hr; kernel_rfl, fun r hr => absurd hr (by simp [fd28])⟩
theorem fa55 : FdOk Go.Proofs.Try.prog fd55 ∧ E.ld 55 = none ∧ (∀ r ∈ fd55.loops, E.ld r.2.lid = some ⟨55, r.1, r.2, false⟩) ∧ ∀ r ∈ fd55.joins, E.ld r.2.lid = some ⟨55, r.1, r.2, true⟩ :=
  ⟨FdOk.of Go.Proofs.Try.func55 (by kernel_rfl), by kernel_rfl, fun r hr => by
    simp only [fd55, List.mem_cons, List.not_mem_nil, or_false] at hr
    subst hr; kernel_rfl, fun r hr => absurd hr (by simp [fd55])⟩
theorem fa56 : FdOk Go.Proofs.Try.prog fd56 ∧ E.ld 56 = none ∧ (∀ r ∈ fd56.loops, E.ld r.2.lid = some ⟨56, r.1, r.2, false⟩) ∧ ∀ r ∈ fd56.joins, E.ld r.2.lid = some ⟨56, r.1, r.2, true⟩ :=
  ⟨FdOk.of Go.Proofs.Try.func56 (by kernel_rfl), by kernel_rfl, fun r hr => by
    simp only [fd56, List.mem_cons, List.not_mem_nil, or_false] at hr
    rcases hr with rfl | rfl <;> kernel_rfl, fun r hr => absurd hr (by simp [fd56])⟩
theorem fa57 : FdOk Go.Proofs.Try.prog fd57 ∧ E.ld 57 = none ∧ (∀ r ∈ fd57.loops, E.ld r.2.lid = some ⟨57, r.1, r.2, false⟩) ∧ ∀ r ∈ fd57.joins, E.ld r.2.lid = some ⟨57, r.1, r.2, true⟩ :=
  ⟨FdOk.of Go.Proofs.Try.func57 (by kernel_rfl), by kernel_rfl, fun r hr => by
    simp only [fd57, List.mem_cons, List.not_mem_nil, or_false] at hr
    rcases hr with rfl | rfl <;> kernel_rfl, fun r hr => absurd hr (by simp [fd57])⟩
theorem fa14 : FdOk Go.Proofs.Try.prog fd14 ∧ E.ld 14 = none ∧ (∀ r ∈ fd14.loops, E.ld r.2.lid = some ⟨14, r.1, r.2, false⟩) ∧ ∀ r ∈ fd14.joins, E.ld r.2.lid = some ⟨14, r.1, r.2, true⟩ :=
  ⟨FdOk.of Go.Proofs.Try.func14 (by kernel_rfl), by kernel_rfl, fun r hr => absurd hr (by simp [fd14]), fun r hr => absurd hr (by simp [fd14])⟩
def lay10001_ren : Go.Shelf.Ren := ⟨fun | 6 => 108 | 15 => 131 | 14 => 130 | 28 => 149 | 29 => 150 | 20 => 141 | 21 => 142 | 22 => 143 | 23 => 144 | 24 => 145 | 25 => 146 | 26 => 147 | 27 => 148 | 46 => 153 | 47 => 154 | 48 => 155 | 49 => 156 | 50 => 157 | 57 => 158 | n => n, fun | 22 => 56 | 24 => 32 | 25 => 110 | 3 => 3 | 39 => 125 | 0 => 0 | 53 => 143 | 55 => 145 | 4 => 4 | 46 => 136 | 45 => 135 | 50 => 140 | 5 => 5 | 9 => 9 | 66 => 148 | 70 => 152 | 76 => 154 | 77 => 155 | n => n, fun | n => n⟩
theorem lay10001 : Go.Proofs.SlLaysF0.n6 Go.Proofs.Try.prog lay10001_ren where
  mixed := by kernel_rfl
  f6 := ⟨ "slices.SortFunc[[]loop.example/g01205/impl.Part,loop.example/g01205/impl.Part]", by decide, Go.Proofs.Try.func108.trans (congrArg some (by kernel_rfl))⟩
  f14 := ⟨ "slices.pdqsortCmpFunc[loop.example/g01205/impl.Part]", by decide, Go.Proofs.Try.func130.trans (congrArg some (by kernel_rfl))⟩
  f15 := Go.Proofs.Try.func131.trans (congrArg some (by kernel_rfl))
  f20 := ⟨ "slices.insertionSortCmpFunc[loop.example/g01205/impl.Part]", by decide, Go.Proofs.Try.func141.trans (congrArg some (by kernel_rfl))⟩
  f21 := ⟨ "slices.heapSortCmpFunc[loop.example/g01205/impl.Part]", by decide, Go.Proofs.Try.func142.trans (congrArg some (by kernel_rfl))⟩
  f22 := ⟨ "slices.breakPatternsCmpFunc[loop.example/g01205/impl.Part]", by decide, Go.Proofs.Try.func143.trans (congrArg some (by kernel_rfl))⟩
  f23 := ⟨ "slices.choosePivotCmpFunc[loop.example/g01205/impl.Part]", by decide, Go.Proofs.Try.func144.trans (congrArg some (by kernel_rfl))⟩
  f24 := ⟨ "slices.reverseRangeCmpFunc[loop.example/g01205/impl.Part]", by decide, Go.Proofs.Try.func145.trans (congrArg some (by kernel_rfl))⟩
  f25 := ⟨ "slices.partialInsertionSortCmpFunc[loop.example/g01205/impl.Part]", by decide, Go.Proofs.Try.func146.trans (congrArg some (by kernel_rfl))⟩
  f26 := ⟨ "slices.partitionEqualCmpFunc[loop.example/g01205/impl.Part]", by decide, Go.Proofs.Try.func147.trans (congrArg some (by kernel_rfl))⟩
  f27 := ⟨ "slices.partitionCmpFunc[loop.example/g01205/impl.Part]", by decide, Go.Proofs.Try.func148.trans (congrArg some (by kernel_rfl))⟩
  f28 := Go.Proofs.Try.func149.trans (congrArg some (by kernel_rfl))
  f29 := Go.Proofs.Try.func150.trans (congrArg some (by kernel_rfl))
  f46 := ⟨ "slices.siftDownCmpFunc[loop.example/g01205/impl.Part]", by decide, Go.Proofs.Try.func153.trans (congrArg some (by kernel_rfl))⟩
  f47 := Go.Proofs.Try.func154.trans (congrArg some (by kernel_rfl))
  f48 := Go.Proofs.Try.func155.trans (congrArg some (by kernel_rfl))
  f49 := ⟨ "slices.medianAdjacentCmpFunc[loop.example/g01205/impl.Part]", by decide, Go.Proofs.Try.func156.trans (congrArg some (by kernel_rfl))⟩
  f50 := ⟨ "slices.medianCmpFunc[loop.example/g01205/impl.Part]", by decide, Go.Proofs.Try.func157.trans (congrArg some (by kernel_rfl))⟩
  f57 := ⟨ "slices.order2CmpFunc[loop.example/g01205/impl.Part]", by decide, Go.Proofs.Try.func158.trans (congrArg some (by kernel_rfl))⟩
  t0 := Go.Proofs.Try.underlying0
  a0 := Go.Proofs.Try.isAgg0
  z0 := Go.Proofs.Try.sizeOf0
  v0 := Go.Proofs.Try.zeroValue0
  t3 := Go.Proofs.Try.underlying3
  a3 := Go.Proofs.Try.isAgg3
  z3 := Go.Proofs.Try.sizeOf3
  v3 := Go.Proofs.Try.zeroValue3
  t4 := Go.Proofs.Try.underlying4
  a4 := Go.Proofs.Try.isAgg4
  z4 := Go.Proofs.Try.sizeOf4
  v4 := Go.Proofs.Try.zeroValue4
  t5 := Go.Proofs.Try.underlying5
  a5 := Go.Proofs.Try.isAgg5
  z5 := Go.Proofs.Try.sizeOf5
  v5 := Go.Proofs.Try.zeroValue5
  t9 := Go.Proofs.Try.underlying9
  a9 := Go.Proofs.Try.isAgg9
  z9 := Go.Proofs.Try.sizeOf9
  v9 := Go.Proofs.Try.zeroValue9
  t22 := Go.Proofs.Try.underlying56
  a22 := Go.Proofs.Try.isAgg56
  z22 := Go.Proofs.Try.sizeOf56
  v22 := Go.Proofs.Try.zeroValue56
  t25 := Go.Proofs.Try.underlying110
  a25 := Go.Proofs.Try.isAgg110
  z25 := Go.Proofs.Try.sizeOf110
  v25 := Go.Proofs.Try.zeroValue110
  t39 := Go.Proofs.Try.underlying125
  a39 := Go.Proofs.Try.isAgg125
  z39 := Go.Proofs.Try.sizeOf125
  v39 := Go.Proofs.Try.zeroValue125
  t45 := Go.Proofs.Try.underlying135
  a45 := Go.Proofs.Try.isAgg135
  z45 := Go.Proofs.Try.sizeOf135
  v45 := Go.Proofs.Try.zeroValue135
  t46 := Go.Proofs.Try.underlying136
  a46 := Go.Proofs.Try.isAgg136
  z46 := Go.Proofs.Try.sizeOf136
  v46 := Go.Proofs.Try.zeroValue136
  t50 := Go.Proofs.Try.underlying140
  a50 := Go.Proofs.Try.isAgg140
  z50 := Go.Proofs.Try.sizeOf140
  v50 := Go.Proofs.Try.zeroValue140
  t53 := Go.Proofs.Try.underlying143
  a53 := Go.Proofs.Try.isAgg143
  z53 := Go.Proofs.Try.sizeOf143
  v53 := Go.Proofs.Try.zeroValue143
  t55 := Go.Proofs.Try.underlying145
  a55 := Go.Proofs.Try.isAgg145
  z55 := Go.Proofs.Try.sizeOf145
  v55 := Go.Proofs.Try.zeroValue145
  t66 := Go.Proofs.Try.underlying148
  a66 := Go.Proofs.Try.isAgg148
  z66 := Go.Proofs.Try.sizeOf148
  v66 := Go.Proofs.Try.zeroValue148
  t70 := Go.Proofs.Try.underlying152
  a70 := Go.Proofs.Try.isAgg152
  z70 := Go.Proofs.Try.sizeOf152
  v70 := Go.Proofs.Try.zeroValue152
  t76 := Go.Proofs.Try.underlying154
  a76 := Go.Proofs.Try.isAgg154
  z76 := Go.Proofs.Try.sizeOf154
  v76 := Go.Proofs.Try.zeroValue154
  t77 := Go.Proofs.Try.underlying155
  a77 := Go.Proofs.Try.isAgg155
  z77 := Go.Proofs.Try.sizeOf155
  v77 := Go.Proofs.Try.zeroValue155
theorem fx10001 : ∃ fd, E.fd 10001 = some fd ∧ ExtOk Go.Proofs.Try.prog E fd (.sort 109 (.arr .u8 8)) :=
  ⟨fd10001, by kernel_rfl, sort_ok (T := 32) lay10001 ((envTy_of rfl tyOk strOk).ty _ _ (by kernel_rfl)) rfl Go.Proofs.Try.isAgg32 Go.Proofs.Try.sizeOf32 rfl (.inl ⟨rfl, rfl⟩) rfl (by kernel_rfl) (by kernel_rfl) fa109.1 rfl rfl⟩
theorem envOk : EnvOk Go.Proofs.Try.prog E := EnvOk.of (envTy_of rfl tyOk strOk) (by kernel_rfl) rfl (by
  simp only [fdTab, List.forall_mem_cons]
  exact ⟨fa68, fa87, fa88, fa129, fa105, fa53, fa70, fa124, fa90, fa78, fa92, fa107, fa10000, fa151, fa132, fa110, fa109, fa10001, fa54, fa28, fa55, fa56, fa57, fa14, fun q hq => absurd hq (by simp)⟩) rfl (by
  simp only [extTab, List.forall_mem_cons]
  exact ⟨fx10001, fun q hq => absurd hq (by simp)⟩)
end Go.Ev.Ytadjhggdddbicaa
