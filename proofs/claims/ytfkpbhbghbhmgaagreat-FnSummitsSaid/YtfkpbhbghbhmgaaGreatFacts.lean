/- The evaluator's tables are the program's. -/
import Derived.KernelRfl
import Derived.Test.YtfkpbhbghbhmgaaGreatEnv
import Derived.Test.YtfkpbhbghbhmgaaGreatV5
set_option linter.unusedVariables false
namespace Go.Ev.YtfkpbhbghbhmgaaGreat
open Go.Ev
theorem strOk : E.str.all (isStrB Go.Proofs.Tryz.prog) = true := by kernel_rfl
def FaX (d : FD) (n : Nat) : Prop := FdOk Go.Proofs.Tryz.prog d ∧ E.ld n = none ∧ (∀ r ∈ d.loops, E.ld r.2.lid = some ⟨n, r.1, r.2, false⟩) ∧ ∀ r ∈ d.joins, E.ld r.2.lid = some ⟨n, r.1, r.2, true⟩
theorem tyOk : tyTab.all (fun q => tyOkB Go.Proofs.Tryz.prog q.2 q.1) = true := by kernel_rfl
theorem fa4 : FaX fd4 4 :=
  ⟨FdOk.of Go.Proofs.Tryz.func4 (by kernel_rfl), by kernel_rfl, fun r hr => absurd hr (by simp [fd4]), fun r hr => absurd hr (by simp [fd4])⟩
theorem fa25 : FaX fd25 25 :=
  ⟨FdOk.of Go.Proofs.Tryz.func25 (by kernel_rfl), by kernel_rfl, fun r hr => by
    simp only [fd25, List.mem_cons, List.not_mem_nil, or_false] at hr
    subst hr; kernel_rfl, fun r hr => absurd hr (by simp [fd25])⟩
theorem fa56 : FaX fd56 56 :=
  ⟨FdOk.of Go.Proofs.Tryz.func56 (by kernel_rfl), by kernel_rfl, fun r hr => absurd hr (by simp [fd56]), fun r hr => absurd hr (by simp [fd56])⟩
theorem fa54 : FaX fd54 54 :=
  ⟨FdOk.of Go.Proofs.Tryz.func54 (by kernel_rfl), by kernel_rfl, fun r hr => absurd hr (by simp [fd54]), fun r hr => absurd hr (by simp [fd54])⟩
theorem fa55 : FaX fd55 55 :=
  ⟨FdOk.of Go.Proofs.Tryz.func55 (by kernel_rfl), by kernel_rfl, fun r hr => by
    simp only [fd55, List.mem_cons, List.not_mem_nil, or_false] at hr
    subst hr; kernel_rfl, fun r hr => absurd hr (by simp [fd55])⟩
theorem fa71 : FaX fd71 71 :=
  ⟨FdOk.of Go.Proofs.Tryz.func71 (by kernel_rfl), by kernel_rfl, fun r hr => by
    simp only [fd71, List.mem_cons, List.not_mem_nil, or_false] at hr
    subst hr; kernel_rfl, fun r hr => absurd hr (by simp [fd71])⟩
theorem fa99 : FaX fd99 99 :=
  ⟨FdOk.of Go.Proofs.Tryz.func99 (by kernel_rfl), by kernel_rfl, fun r hr => absurd hr (by simp [fd99]), fun r hr => absurd hr (by simp [fd99])⟩
theorem fa61 : FaX fd61 61 :=
  ⟨FdOk.of Go.Proofs.Tryz.func61 (by kernel_rfl), by kernel_rfl, fun r hr => by
    simp only [fd61, List.mem_cons, List.not_mem_nil, or_false] at hr
    subst hr; kernel_rfl, fun r hr => absurd hr (by simp [fd61])⟩
theorem fa107 : FaX fd107 107 :=
  ⟨FdOk.of Go.Proofs.Tryz.func107 (by kernel_rfl), by kernel_rfl, fun r hr => by
    simp only [fd107, List.mem_cons, List.not_mem_nil, or_false] at hr
    subst hr; kernel_rfl, fun r hr => absurd hr (by simp [fd107])⟩
theorem fa104 : FaX fd104 104 :=
  ⟨FdOk.of Go.Proofs.Tryz.func104 (by kernel_rfl), by kernel_rfl, fun r hr => absurd hr (by simp [fd104]), fun r hr => absurd hr (by simp [fd104])⟩
theorem fa100 : FaX fd100 100 :=
  ⟨FdOk.of Go.Proofs.Tryz.func100 (by kernel_rfl), by kernel_rfl, fun r hr => by
    simp only [fd100, List.mem_cons, List.not_mem_nil, or_false] at hr
    subst hr; kernel_rfl, fun r hr => absurd hr (by simp [fd100])⟩
theorem fa103 : FaX fd103 103 :=
  ⟨FdOk.of Go.Proofs.Tryz.func103 (by kernel_rfl), by kernel_rfl, fun r hr => by
    simp only [fd103, List.mem_cons, List.not_mem_nil, or_false] at hr
    subst hr; kernel_rfl, fun r hr => absurd hr (by simp [fd103])⟩
theorem fa123 : FaX fd123 123 :=
  ⟨FdOk.of Go.Proofs.Tryz.func123 (by kernel_rfl), by kernel_rfl, fun r hr => absurd hr (by simp [fd123]), fun r hr => absurd hr (by simp [fd123])⟩
theorem fa106 : FaX fd106 106 :=
  ⟨FdOk.of Go.Proofs.Tryz.func106 (by kernel_rfl), by kernel_rfl, fun r hr => absurd hr (by simp [fd106]), fun r hr => absurd hr (by simp [fd106])⟩
theorem fa105 : FaX fd105 105 :=
  ⟨FdOk.of Go.Proofs.Tryz.func105 (by kernel_rfl), by kernel_rfl, fun r hr => by
    simp only [fd105, List.mem_cons, List.not_mem_nil, or_false] at hr
    subst hr; kernel_rfl, fun r hr => absurd hr (by simp [fd105])⟩
theorem fa74 : FaX fd74 74 :=
  ⟨FdOk.of Go.Proofs.Tryz.func74 (by kernel_rfl), by kernel_rfl, fun r hr => by
    simp only [fd74, List.mem_cons, List.not_mem_nil, or_false] at hr
    rcases hr with rfl | rfl <;> kernel_rfl, fun r hr => absurd hr (by simp [fd74])⟩
theorem fa31 : FaX fd31 31 :=
  ⟨FdOk.of Go.Proofs.Tryz.func31 (by kernel_rfl), by kernel_rfl, fun r hr => by
    simp only [fd31, List.mem_cons, List.not_mem_nil, or_false] at hr
    rcases hr with rfl | rfl <;> kernel_rfl, fun r hr => absurd hr (by simp [fd31])⟩
theorem fa98 : FaX fd98 98 :=
  ⟨FdOk.of Go.Proofs.Tryz.func98 (by kernel_rfl), by kernel_rfl, fun r hr => absurd hr (by simp [fd98]), fun r hr => absurd hr (by simp [fd98])⟩
theorem fa57 : FaX fd57 57 :=
  ⟨FdOk.of Go.Proofs.Tryz.func57 (by kernel_rfl), by kernel_rfl, fun r hr => by
    simp only [fd57, List.mem_cons, List.not_mem_nil, or_false] at hr
    subst hr; kernel_rfl, fun r hr => absurd hr (by simp [fd57])⟩
theorem fa59 : FaX fd59 59 :=
  ⟨FdOk.of Go.Proofs.Tryz.func59 (by kernel_rfl), by kernel_rfl, fun r hr => by
    simp only [fd59, List.mem_cons, List.not_mem_nil, or_false] at hr
    subst hr; kernel_rfl, fun r hr => absurd hr (by simp [fd59])⟩
theorem fa58 : FaX fd58 58 :=
  ⟨FdOk.of Go.Proofs.Tryz.func58 (by kernel_rfl), by kernel_rfl, fun r hr => absurd hr (by simp [fd58]), fun r hr => absurd hr (by simp [fd58])⟩
theorem fa101 : FaX fd101 101 :=
  ⟨FdOk.of Go.Proofs.Tryz.func101 (by kernel_rfl), by kernel_rfl, fun r hr => absurd hr (by simp [fd101]), fun r hr => absurd hr (by simp [fd101])⟩
theorem fa60 : FaX fd60 60 :=
  ⟨FdOk.of Go.Proofs.Tryz.func60 (by kernel_rfl), by kernel_rfl, fun r hr => absurd hr (by simp [fd60]), fun r hr => absurd hr (by simp [fd60])⟩
theorem fa24 : FaX fd24 24 :=
  ⟨FdOk.of Go.Proofs.Tryz.func24 (by kernel_rfl), by kernel_rfl, fun r hr => by
    simp only [fd24, List.mem_cons, List.not_mem_nil, or_false] at hr
    rcases hr with rfl | rfl <;> kernel_rfl, fun r hr => absurd hr (by simp [fd24])⟩
theorem fa5 : FaX fd5 5 :=
  ⟨FdOk.of Go.Proofs.Tryz.func5 (by kernel_rfl), by kernel_rfl, fun r hr => absurd hr (by simp [fd5]), fun r hr => absurd hr (by simp [fd5])⟩
theorem fa76 : FaX fd76 76 :=
  ⟨FdOk.of Go.Proofs.Tryz.func76 (by kernel_rfl), by kernel_rfl, fun r hr => absurd hr (by simp [fd76]), fun r hr => absurd hr (by simp [fd76])⟩
theorem fa75 : FaX fd75 75 :=
  ⟨FdOk.of Go.Proofs.Tryz.func75 (by kernel_rfl), by kernel_rfl, fun r hr => absurd hr (by simp [fd75]), fun r hr => absurd hr (by simp [fd75])⟩
theorem fa77 : FaX fd77 77 :=
  ⟨FdOk.of Go.Proofs.Tryz.func77 (by kernel_rfl), by kernel_rfl, fun r hr => by
    simp only [fd77, List.mem_cons, List.not_mem_nil, or_false] at hr
    subst hr; kernel_rfl, fun r hr => absurd hr (by simp [fd77])⟩
theorem fa78 : FaX fd78 78 :=
  ⟨FdOk.of Go.Proofs.Tryz.func78 (by kernel_rfl), by kernel_rfl, fun r hr => by
    simp only [fd78, List.mem_cons, List.not_mem_nil, or_false] at hr
    subst hr; kernel_rfl, fun r hr => absurd hr (by simp [fd78])⟩
theorem fa79 : FaX fd79 79 :=
  ⟨FdOk.of Go.Proofs.Tryz.func79 (by kernel_rfl), by kernel_rfl, fun r hr => by
    simp only [fd79, List.mem_cons, List.not_mem_nil, or_false] at hr
    subst hr; kernel_rfl, fun r hr => absurd hr (by simp [fd79])⟩
theorem fa108 : FaX fd108 108 :=
  ⟨FdOk.of Go.Proofs.Tryz.func108 (by kernel_rfl), by kernel_rfl, fun r hr => by
    simp only [fd108, List.mem_cons, List.not_mem_nil, or_false] at hr
    subst hr; kernel_rfl, fun r hr => absurd hr (by simp [fd108])⟩
theorem fa110 : FaX fd110 110 :=
  ⟨FdOk.of Go.Proofs.Tryz.func110 (by kernel_rfl), by kernel_rfl, fun r hr => absurd hr (by simp [fd110]), fun r hr => absurd hr (by simp [fd110])⟩
theorem fa109 : FaX fd109 109 :=
  ⟨FdOk.of Go.Proofs.Tryz.func109 (by kernel_rfl), by kernel_rfl, fun r hr => by
    simp only [fd109, List.mem_cons, List.not_mem_nil, or_false] at hr
    subst hr; kernel_rfl, fun r hr => absurd hr (by simp [fd109])⟩
theorem fa80 : FaX fd80 80 :=
  ⟨FdOk.of Go.Proofs.Tryz.func80 (by kernel_rfl), by kernel_rfl, fun r hr => by
    simp only [fd80, List.mem_cons, List.not_mem_nil, or_false] at hr
    subst hr; kernel_rfl, fun r hr => absurd hr (by simp [fd80])⟩
theorem fa32 : FaX fd32 32 :=
  ⟨FdOk.of Go.Proofs.Tryz.func32 (by kernel_rfl), by kernel_rfl, fun r hr => by
    simp only [fd32, List.mem_cons, List.not_mem_nil, or_false] at hr
    subst hr; kernel_rfl, fun r hr => absurd hr (by simp [fd32])⟩
theorem fa68 : FaX fd68 68 :=
  ⟨FdOk.of Go.Proofs.Tryz.func68 (by kernel_rfl), by kernel_rfl, fun r hr => absurd hr (by simp [fd68]), fun r hr => absurd hr (by simp [fd68])⟩
theorem fa111 : FaX fd111 111 :=
  ⟨FdOk.of Go.Proofs.Tryz.func111 (by kernel_rfl), by kernel_rfl, fun r hr => by
    simp only [fd111, List.mem_cons, List.not_mem_nil, or_false] at hr
    subst hr; kernel_rfl, fun r hr => absurd hr (by simp [fd111])⟩
theorem fa122 : FaX fd122 122 :=
  ⟨FdOk.of Go.Proofs.Tryz.func122 (by kernel_rfl), by kernel_rfl, fun r hr => absurd hr (by simp [fd122]), fun r hr => absurd hr (by simp [fd122])⟩
theorem fa102 : FaX fd102 102 :=
  ⟨FdOk.of Go.Proofs.Tryz.func102 (by kernel_rfl), by kernel_rfl, fun r hr => absurd hr (by simp [fd102]), fun r hr => absurd hr (by simp [fd102])⟩
theorem fa120 : FaX fd120 120 :=
  ⟨FdOk.of Go.Proofs.Tryz.func120 (by kernel_rfl), by kernel_rfl, fun r hr => absurd hr (by simp [fd120]), fun r hr => absurd hr (by simp [fd120])⟩
theorem fa136 : FaX fd136 136 :=
  ⟨FdOk.of Go.Proofs.Tryz.func136 (by kernel_rfl), by kernel_rfl, fun r hr => by
    simp only [fd136, List.mem_cons, List.not_mem_nil, or_false] at hr
    rcases hr with rfl | rfl <;> kernel_rfl, fun r hr => absurd hr (by simp [fd136])⟩
theorem fa119 : FaX fd119 119 :=
  ⟨FdOk.of Go.Proofs.Tryz.func119 (by kernel_rfl), by kernel_rfl, fun r hr => by
    simp only [fd119, List.mem_cons, List.not_mem_nil, or_false] at hr
    rcases hr with rfl | rfl <;> kernel_rfl, fun r hr => absurd hr (by simp [fd119])⟩
theorem fa94 : FaX fd94 94 :=
  ⟨FdOk.of Go.Proofs.Tryz.func94 (by kernel_rfl), by kernel_rfl, fun r hr => by
    simp only [fd94, List.mem_cons, List.not_mem_nil, or_false] at hr
    rcases hr with rfl | rfl | rfl <;> kernel_rfl, fun r hr => absurd hr (by simp [fd94])⟩
theorem fa63 : FaX fd63 63 :=
  ⟨FdOk.of Go.Proofs.Tryz.func63 (by kernel_rfl), by kernel_rfl, fun r hr => absurd hr (by simp [fd63]), fun r hr => absurd hr (by simp [fd63])⟩
theorem fa64 : FaX fd64 64 :=
  ⟨FdOk.of Go.Proofs.Tryz.func64 (by kernel_rfl), by kernel_rfl, fun r hr => absurd hr (by simp [fd64]), fun r hr => absurd hr (by simp [fd64])⟩
theorem fa10001 : FaX fd10001 10001 :=
  ⟨FdOk.of Go.Proofs.Tryz.func62 (by kernel_rfl), by kernel_rfl, fun r hr => by
    simp only [fd10001, List.mem_cons, List.not_mem_nil, or_false] at hr
    subst hr; kernel_rfl, fun r hr => absurd hr (by simp [fd10001])⟩
theorem fa65 : FaX fd65 65 :=
  ⟨FdOk.of Go.Proofs.Tryz.func65 (by kernel_rfl), by kernel_rfl, fun r hr => by
    simp only [fd65, List.mem_cons, List.not_mem_nil, or_false] at hr
    subst hr; kernel_rfl, fun r hr => absurd hr (by simp [fd65])⟩
theorem fa67 : FaX fd67 67 :=
  ⟨FdOk.of Go.Proofs.Tryz.func67 (by kernel_rfl), by kernel_rfl, fun r hr => absurd hr (by simp [fd67]), fun r hr => absurd hr (by simp [fd67])⟩
theorem fa66 : FaX fd66 66 :=
  ⟨FdOk.of Go.Proofs.Tryz.func66 (by kernel_rfl), by kernel_rfl, fun r hr => absurd hr (by simp [fd66]), fun r hr => absurd hr (by simp [fd66])⟩
theorem fa10002 : FaX fd10002 10002 :=
  ⟨FdOk.of Go.Proofs.Tryz.func62 (by kernel_rfl), by kernel_rfl, fun r hr => by
    simp only [fd10002, List.mem_cons, List.not_mem_nil, or_false] at hr
    subst hr; kernel_rfl, fun r hr => absurd hr (by simp [fd10002])⟩
theorem fa27 : FaX fd27 27 :=
  ⟨FdOk.of Go.Proofs.Tryz.func27 (by kernel_rfl), by kernel_rfl, fun r hr => by
    simp only [fd27, List.mem_cons, List.not_mem_nil, or_false] at hr
    subst hr; kernel_rfl, fun r hr => absurd hr (by simp [fd27])⟩
theorem fa34 : FaX fd34 34 :=
  ⟨FdOk.of Go.Proofs.Tryz.func34 (by kernel_rfl), by kernel_rfl, fun r hr => absurd hr (by simp [fd34]), fun r hr => absurd hr (by simp [fd34])⟩
theorem fa10000 : FaX fd10000 10000 :=
  ⟨FdOk.of Go.Proofs.Tryz.func26 (by kernel_rfl), by kernel_rfl, fun r hr => absurd hr (by simp [fd10000]), fun r hr => absurd hr (by simp [fd10000])⟩
theorem fa6 : FaX fd6 6 :=
  ⟨FdOk.of Go.Proofs.Tryz.func6 (by kernel_rfl), by kernel_rfl, fun r hr => absurd hr (by simp [fd6]), fun r hr => absurd hr (by simp [fd6])⟩
theorem fa69 : FaX fd69 69 :=
  ⟨FdOk.of Go.Proofs.Tryz.func69 (by kernel_rfl), by kernel_rfl, fun r hr => absurd hr (by simp [fd69]), fun r hr => absurd hr (by simp [fd69])⟩
theorem fa70 : FaX fd70 70 :=
  ⟨FdOk.of Go.Proofs.Tryz.func70 (by kernel_rfl), by kernel_rfl, fun r hr => by
    simp only [fd70, List.mem_cons, List.not_mem_nil, or_false] at hr
    subst hr; kernel_rfl, fun r hr => absurd hr (by simp [fd70])⟩
theorem fa72 : FaX fd72 72 :=
  ⟨FdOk.of Go.Proofs.Tryz.func72 (by kernel_rfl), by kernel_rfl, fun r hr => by
    simp only [fd72, List.mem_cons, List.not_mem_nil, or_false] at hr
    subst hr; kernel_rfl, fun r hr => absurd hr (by simp [fd72])⟩
theorem fa28 : FaX fd28 28 :=
  ⟨FdOk.of Go.Proofs.Tryz.func28 (by kernel_rfl), by kernel_rfl, fun r hr => by
    simp only [fd28, List.mem_cons, List.not_mem_nil, or_false] at hr
    subst hr; kernel_rfl, fun r hr => absurd hr (by simp [fd28])⟩
theorem fa90 : FaX fd90 90 :=
  ⟨FdOk.of Go.Proofs.Tryz.func90 (by kernel_rfl), by kernel_rfl, fun r hr => absurd hr (by simp [fd90]), fun r hr => absurd hr (by simp [fd90])⟩
theorem fa40 : FaX fd40 40 :=
  ⟨FdOk.of Go.Proofs.Tryz.func40 (by kernel_rfl), by kernel_rfl, fun r hr => absurd hr (by simp [fd40]), fun r hr => absurd hr (by simp [fd40])⟩
theorem fa73 : FaX fd73 73 :=
  ⟨FdOk.of Go.Proofs.Tryz.func73 (by kernel_rfl), by kernel_rfl, fun r hr => absurd hr (by simp [fd73]), fun r hr => absurd hr (by simp [fd73])⟩
theorem fa29 : FaX fd29 29 :=
  ⟨FdOk.of Go.Proofs.Tryz.func29 (by kernel_rfl), by kernel_rfl, fun r hr => by
    simp only [fd29, List.mem_cons, List.not_mem_nil, or_false] at hr
    rcases hr with rfl | rfl | rfl <;> kernel_rfl, fun r hr => absurd hr (by simp [fd29])⟩
theorem fa30 : FaX fd30 30 :=
  ⟨FdOk.of Go.Proofs.Tryz.func30 (by kernel_rfl), by kernel_rfl, fun r hr => absurd hr (by simp [fd30]), fun r hr => absurd hr (by simp [fd30])⟩
theorem fa7 : FaX fd7 7 :=
  ⟨FdOk.of Go.Proofs.Tryz.func7 (by kernel_rfl), by kernel_rfl, fun r hr => absurd hr (by simp [fd7]), fun r hr => absurd hr (by simp [fd7])⟩
theorem fa8 : FaX fd8 8 :=
  ⟨FdOk.of Go.Proofs.Tryz.func8 (by kernel_rfl), by kernel_rfl, fun r hr => by
    simp only [fd8, List.mem_cons, List.not_mem_nil, or_false] at hr
    subst hr; kernel_rfl, fun r hr => absurd hr (by simp [fd8])⟩
theorem fa9 : FaX fd9 9 :=
  ⟨FdOk.of Go.Proofs.Tryz.func9 (by kernel_rfl), by kernel_rfl, fun r hr => absurd hr (by simp [fd9]), fun r hr => absurd hr (by simp [fd9])⟩
theorem fa10 : FaX fd10 10 :=
  ⟨FdOk.of Go.Proofs.Tryz.func10 (by kernel_rfl), by kernel_rfl, fun r hr => absurd hr (by simp [fd10]), fun r hr => absurd hr (by simp [fd10])⟩
theorem fa11 : FaX fd11 11 :=
  ⟨FdOk.of Go.Proofs.Tryz.func11 (by kernel_rfl), by kernel_rfl, fun r hr => by
    simp only [fd11, List.mem_cons, List.not_mem_nil, or_false] at hr
    subst hr; kernel_rfl, fun r hr => absurd hr (by simp [fd11])⟩
theorem fa95 : FaX fd95 95 :=
  ⟨FdOk.of Go.Proofs.Tryz.func95 (by kernel_rfl), by kernel_rfl, fun r hr => absurd hr (by simp [fd95]), fun r hr => absurd hr (by simp [fd95])⟩
theorem fa124 : FaX fd124 124 :=
  ⟨FdOk.of Go.Proofs.Tryz.func124 (by kernel_rfl), by kernel_rfl, fun r hr => by
    simp only [fd124, List.mem_cons, List.not_mem_nil, or_false] at hr
    subst hr; kernel_rfl, fun r hr => absurd hr (by simp [fd124])⟩
theorem fa112 : FaX fd112 112 :=
  ⟨FdOk.of Go.Proofs.Tryz.func112 (by kernel_rfl), by kernel_rfl, fun r hr => absurd hr (by simp [fd112]), fun r hr => absurd hr (by simp [fd112])⟩
theorem fa81 : FaX fd81 81 :=
  ⟨FdOk.of Go.Proofs.Tryz.func81 (by kernel_rfl), by kernel_rfl, fun r hr => by
    simp only [fd81, List.mem_cons, List.not_mem_nil, or_false] at hr
    rcases hr with rfl | rfl <;> kernel_rfl, fun r hr => absurd hr (by simp [fd81])⟩
theorem fa97 : FaX fd97 97 :=
  ⟨FdOk.of Go.Proofs.Tryz.func97 (by kernel_rfl), by kernel_rfl, fun r hr => by
    simp only [fd97, List.mem_cons, List.not_mem_nil, or_false] at hr
    subst hr; kernel_rfl, fun r hr => absurd hr (by simp [fd97])⟩
theorem fa121 : FaX fd121 121 :=
  ⟨FdOk.of Go.Proofs.Tryz.func121 (by kernel_rfl), by kernel_rfl, fun r hr => absurd hr (by simp [fd121]), fun r hr => absurd hr (by simp [fd121])⟩
theorem fa96 : FaX fd96 96 :=
  ⟨FdOk.of Go.Proofs.Tryz.func96 (by kernel_rfl), by kernel_rfl, fun r hr => absurd hr (by simp [fd96]), fun r hr => absurd hr (by simp [fd96])⟩
theorem fa52 : FaX fd52 52 :=
  ⟨FdOk.of Go.Proofs.Tryz.func52 (by kernel_rfl), by kernel_rfl, fun r hr => by
    simp only [fd52, List.mem_cons, List.not_mem_nil, or_false] at hr
    subst hr; kernel_rfl, fun r hr => absurd hr (by simp [fd52])⟩
theorem fa113 : FaX fd113 113 :=
  ⟨FdOk.of Go.Proofs.Tryz.func113 (by kernel_rfl), by kernel_rfl, fun r hr => absurd hr (by simp [fd113]), fun r hr => absurd hr (by simp [fd113])⟩
theorem fa82 : FaX fd82 82 :=
  ⟨FdOk.of Go.Proofs.Tryz.func82 (by kernel_rfl), by kernel_rfl, fun r hr => absurd hr (by simp [fd82]), fun r hr => absurd hr (by simp [fd82])⟩
theorem fa91 : FaX fd91 91 :=
  ⟨FdOk.of Go.Proofs.Tryz.func91 (by kernel_rfl), by kernel_rfl, fun r hr => by
    simp only [fd91, List.mem_cons, List.not_mem_nil, or_false] at hr
    subst hr; kernel_rfl, fun r hr => absurd hr (by simp [fd91])⟩
theorem fa46 : FaX fd46 46 :=
  ⟨FdOk.of Go.Proofs.Tryz.func46 (by kernel_rfl), by kernel_rfl, fun r hr => absurd hr (by simp [fd46]), fun r hr => absurd hr (by simp [fd46])⟩
theorem fa83 : FaX fd83 83 :=
  ⟨FdOk.of Go.Proofs.Tryz.func83 (by kernel_rfl), by kernel_rfl, fun r hr => absurd hr (by simp [fd83]), fun r hr => absurd hr (by simp [fd83])⟩
theorem fa10004 : FaX fd10004 10004 :=
  ⟨FdOk.of Go.Proofs.Tryz.func88 (by kernel_rfl), by kernel_rfl, fun r hr => by
    simp only [fd10004, List.mem_cons, List.not_mem_nil, or_false] at hr
    subst hr; kernel_rfl, fun r hr => absurd hr (by simp [fd10004])⟩
theorem fa10003 : FaX fd10003 10003 :=
  ⟨FdOk.of Go.Proofs.Tryz.func44 (by kernel_rfl), by kernel_rfl, fun r hr => absurd hr (by simp [fd10003]), fun r hr => absurd hr (by simp [fd10003])⟩
theorem fa144 : FaX fd144 144 :=
  ⟨FdOk.of Go.Proofs.Tryz.func144 (by kernel_rfl), by kernel_rfl, fun r hr => absurd hr (by simp [fd144]), fun r hr => absurd hr (by simp [fd144])⟩
theorem fa142 : FaX fd142 142 :=
  ⟨FdOk.of Go.Proofs.Tryz.func142 (by kernel_rfl), by kernel_rfl, fun r hr => absurd hr (by simp [fd142]), fun r hr => absurd hr (by simp [fd142])⟩
theorem fa135 : FaX fd135 135 :=
  ⟨FdOk.of Go.Proofs.Tryz.func135 (by kernel_rfl), by kernel_rfl, fun r hr => by
    simp only [fd135, List.mem_cons, List.not_mem_nil, or_false] at hr
    subst hr; kernel_rfl, fun r hr => absurd hr (by simp [fd135])⟩
theorem fa117 : FaX fd117 117 :=
  ⟨FdOk.of Go.Proofs.Tryz.func117 (by kernel_rfl), by kernel_rfl, fun r hr => absurd hr (by simp [fd117]), fun r hr => absurd hr (by simp [fd117])⟩
theorem fa10005 : FaX fd10005 10005 :=
  ⟨FdOk.of Go.Proofs.Tryz.func116 (by kernel_rfl), by kernel_rfl, fun r hr => by
    simp only [fd10005, List.mem_cons, List.not_mem_nil, or_false] at hr
    subst hr; kernel_rfl, fun r hr => absurd hr (by simp [fd10005])⟩
theorem fa85 : FaX fd85 85 :=
  ⟨FdOk.of Go.Proofs.Tryz.func85 (by kernel_rfl), by kernel_rfl, fun r hr => absurd hr (by simp [fd85]), fun r hr => absurd hr (by simp [fd85])⟩
theorem fa10006 : FaX fd10006 10006 :=
  ⟨FdOk.of Go.Proofs.Tryz.func84 (by kernel_rfl), by kernel_rfl, fun r hr => absurd hr (by simp [fd10006]), fun r hr => absurd hr (by simp [fd10006])⟩
theorem fa33 : FaX fd33 33 :=
  ⟨FdOk.of Go.Proofs.Tryz.func33 (by kernel_rfl), by kernel_rfl, fun r hr => by
    simp only [fd33, List.mem_cons, List.not_mem_nil, or_false] at hr
    rcases hr with rfl | rfl <;> kernel_rfl, fun r hr => absurd hr (by simp [fd33])⟩
theorem fa12 : FaX fd12 12 :=
  ⟨FdOk.of Go.Proofs.Tryz.func12 (by kernel_rfl), by kernel_rfl, fun r hr => absurd hr (by simp [fd12]), fun r hr => absurd hr (by simp [fd12])⟩
theorem fa35 : FaX fd35 35 :=
  ⟨FdOk.of Go.Proofs.Tryz.func35 (by kernel_rfl), by kernel_rfl, fun r hr => absurd hr (by simp [fd35]), fun r hr => absurd hr (by simp [fd35])⟩
theorem fa86 : FaX fd86 86 :=
  ⟨FdOk.of Go.Proofs.Tryz.func86 (by kernel_rfl), by kernel_rfl, fun r hr => by
    simp only [fd86, List.mem_cons, List.not_mem_nil, or_false] at hr
    subst hr; kernel_rfl, fun r hr => absurd hr (by simp [fd86])⟩
theorem fa118 : FaX fd118 118 :=
  ⟨FdOk.of Go.Proofs.Tryz.func118 (by kernel_rfl), by kernel_rfl, fun r hr => absurd hr (by simp [fd118]), fun r hr => absurd hr (by simp [fd118])⟩
theorem fa87 : FaX fd87 87 :=
  ⟨FdOk.of Go.Proofs.Tryz.func87 (by kernel_rfl), by kernel_rfl, fun r hr => absurd hr (by simp [fd87]), fun r hr => absurd hr (by simp [fd87])⟩
theorem fa92 : FaX fd92 92 :=
  ⟨FdOk.of Go.Proofs.Tryz.func92 (by kernel_rfl), by kernel_rfl, fun r hr => by
    simp only [fd92, List.mem_cons, List.not_mem_nil, or_false] at hr
    rcases hr with rfl | rfl <;> kernel_rfl, fun r hr => absurd hr (by simp [fd92])⟩
theorem fa41 : FaX fd41 41 :=
  ⟨FdOk.of Go.Proofs.Tryz.func41 (by kernel_rfl), by kernel_rfl, fun r hr => by
    simp only [fd41, List.mem_cons, List.not_mem_nil, or_false] at hr
    subst hr; kernel_rfl, fun r hr => absurd hr (by simp [fd41])⟩
theorem fa48 : FaX fd48 48 :=
  ⟨FdOk.of Go.Proofs.Tryz.func48 (by kernel_rfl), by kernel_rfl, fun r hr => by
    simp only [fd48, List.mem_cons, List.not_mem_nil, or_false] at hr
    subst hr; kernel_rfl, fun r hr => absurd hr (by simp [fd48])⟩
theorem fa36 : FaX fd36 36 :=
  ⟨FdOk.of Go.Proofs.Tryz.func36 (by kernel_rfl), by kernel_rfl, fun r hr => by
    simp only [fd36, List.mem_cons, List.not_mem_nil, or_false] at hr
    rcases hr with rfl | rfl <;> kernel_rfl, fun r hr => absurd hr (by simp [fd36])⟩
theorem fa13 : FaX fd13 13 :=
  ⟨FdOk.of Go.Proofs.Tryz.func13 (by kernel_rfl), by kernel_rfl, fun r hr => by
    simp only [fd13, List.mem_cons, List.not_mem_nil, or_false] at hr
    subst hr; kernel_rfl, fun r hr => absurd hr (by simp [fd13])⟩
theorem fa14 : FaX fd14 14 :=
  ⟨FdOk.of Go.Proofs.Tryz.func14 (by kernel_rfl), by kernel_rfl, fun r hr => by
    simp only [fd14, List.mem_cons, List.not_mem_nil, or_false] at hr
    subst hr; kernel_rfl, fun r hr => absurd hr (by simp [fd14])⟩
theorem fa89 : FaX fd89 89 :=
  ⟨FdOk.of Go.Proofs.Tryz.func89 (by kernel_rfl), by kernel_rfl, fun r hr => absurd hr (by simp [fd89]), fun r hr => absurd hr (by simp [fd89])⟩
theorem fa10010 : FaX fd10010 10010 :=
  ⟨FdOk.of Go.Proofs.Tryz.func88 (by kernel_rfl), by kernel_rfl, fun r hr => by
    simp only [fd10010, List.mem_cons, List.not_mem_nil, or_false] at hr
    subst hr; kernel_rfl, fun r hr => absurd hr (by simp [fd10010])⟩
theorem fa10009 : FaX fd10009 10009 :=
  ⟨FdOk.of Go.Proofs.Tryz.func44 (by kernel_rfl), by kernel_rfl, fun r hr => absurd hr (by simp [fd10009]), fun r hr => absurd hr (by simp [fd10009])⟩
theorem fa39 : FaX fd39 39 :=
  ⟨FdOk.of Go.Proofs.Tryz.func39 (by kernel_rfl), by kernel_rfl, fun r hr => by
    simp only [fd39, List.mem_cons, List.not_mem_nil, or_false] at hr
    subst hr; kernel_rfl, fun r hr => absurd hr (by simp [fd39])⟩
theorem fa38 : FaX fd38 38 :=
  ⟨FdOk.of Go.Proofs.Tryz.func38 (by kernel_rfl), by kernel_rfl, fun r hr => absurd hr (by simp [fd38]), fun r hr => absurd hr (by simp [fd38])⟩
theorem fa10008 : FaX fd10008 10008 :=
  ⟨FdOk.of Go.Proofs.Tryz.func88 (by kernel_rfl), by kernel_rfl, fun r hr => by
    simp only [fd10008, List.mem_cons, List.not_mem_nil, or_false] at hr
    subst hr; kernel_rfl, fun r hr => absurd hr (by simp [fd10008])⟩
theorem fa10007 : FaX fd10007 10007 :=
  ⟨FdOk.of Go.Proofs.Tryz.func37 (by kernel_rfl), by kernel_rfl, fun r hr => by
    simp only [fd10007, List.mem_cons, List.not_mem_nil, or_false] at hr
    subst hr; kernel_rfl, fun r hr => absurd hr (by simp [fd10007])⟩
theorem fa15 : FaX fd15 15 :=
  ⟨FdOk.of Go.Proofs.Tryz.func15 (by kernel_rfl), by kernel_rfl, fun r hr => absurd hr (by simp [fd15]), fun r hr => absurd hr (by simp [fd15])⟩
theorem fa16 : FaX fd16 16 :=
  ⟨FdOk.of Go.Proofs.Tryz.func16 (by kernel_rfl), by kernel_rfl, fun r hr => by
    simp only [fd16, List.mem_cons, List.not_mem_nil, or_false] at hr
    rcases hr with rfl | rfl <;> kernel_rfl, fun r hr => absurd hr (by simp [fd16])⟩
theorem fa42 : FaX fd42 42 :=
  ⟨FdOk.of Go.Proofs.Tryz.func42 (by kernel_rfl), by kernel_rfl, fun r hr => absurd hr (by simp [fd42]), fun r hr => absurd hr (by simp [fd42])⟩
theorem fa17 : FaX fd17 17 :=
  ⟨FdOk.of Go.Proofs.Tryz.func17 (by kernel_rfl), by kernel_rfl, fun r hr => absurd hr (by simp [fd17]), fun r hr => absurd hr (by simp [fd17])⟩
theorem fa43 : FaX fd43 43 :=
  ⟨FdOk.of Go.Proofs.Tryz.func43 (by kernel_rfl), by kernel_rfl, fun r hr => absurd hr (by simp [fd43]), fun r hr => absurd hr (by simp [fd43])⟩
theorem fa45 : FaX fd45 45 :=
  ⟨FdOk.of Go.Proofs.Tryz.func45 (by kernel_rfl), by kernel_rfl, fun r hr => absurd hr (by simp [fd45]), fun r hr => absurd hr (by simp [fd45])⟩
theorem fa10012 : FaX fd10012 10012 :=
  ⟨FdOk.of Go.Proofs.Tryz.func88 (by kernel_rfl), by kernel_rfl, fun r hr => by
    simp only [fd10012, List.mem_cons, List.not_mem_nil, or_false] at hr
    subst hr; kernel_rfl, fun r hr => absurd hr (by simp [fd10012])⟩
theorem fa10011 : FaX fd10011 10011 :=
  ⟨FdOk.of Go.Proofs.Tryz.func44 (by kernel_rfl), by kernel_rfl, fun r hr => absurd hr (by simp [fd10011]), fun r hr => absurd hr (by simp [fd10011])⟩
theorem fa18 : FaX fd18 18 :=
  ⟨FdOk.of Go.Proofs.Tryz.func18 (by kernel_rfl), by kernel_rfl, fun r hr => absurd hr (by simp [fd18]), fun r hr => absurd hr (by simp [fd18])⟩
theorem fa47 : FaX fd47 47 :=
  ⟨FdOk.of Go.Proofs.Tryz.func47 (by kernel_rfl), by kernel_rfl, fun r hr => absurd hr (by simp [fd47]), fun r hr => absurd hr (by simp [fd47])⟩
theorem fa19 : FaX fd19 19 :=
  ⟨FdOk.of Go.Proofs.Tryz.func19 (by kernel_rfl), by kernel_rfl, fun r hr => absurd hr (by simp [fd19]), fun r hr => absurd hr (by simp [fd19])⟩
theorem fa22 : FaX fd22 22 :=
  ⟨FdOk.of Go.Proofs.Tryz.func22 (by kernel_rfl), by kernel_rfl, fun r hr => by
    simp only [fd22, List.mem_cons, List.not_mem_nil, or_false] at hr
    subst hr; kernel_rfl, fun r hr => absurd hr (by simp [fd22])⟩
theorem fa51 : FaX fd51 51 :=
  ⟨FdOk.of Go.Proofs.Tryz.func51 (by kernel_rfl), by kernel_rfl, fun r hr => absurd hr (by simp [fd51]), fun r hr => absurd hr (by simp [fd51])⟩
theorem fa21 : FaX fd21 21 :=
  ⟨FdOk.of Go.Proofs.Tryz.func21 (by kernel_rfl), by kernel_rfl, fun r hr => by
    simp only [fd21, List.mem_cons, List.not_mem_nil, or_false] at hr
    subst hr; kernel_rfl, fun r hr => absurd hr (by simp [fd21])⟩
theorem fa93 : FaX fd93 93 :=
  ⟨FdOk.of Go.Proofs.Tryz.func93 (by kernel_rfl), by kernel_rfl, fun r hr => absurd hr (by simp [fd93]), fun r hr => absurd hr (by simp [fd93])⟩
theorem fa49 : FaX fd49 49 :=
  ⟨FdOk.of Go.Proofs.Tryz.func49 (by kernel_rfl), by kernel_rfl, fun r hr => by
    simp only [fd49, List.mem_cons, List.not_mem_nil, or_false] at hr
    subst hr; kernel_rfl, fun r hr => absurd hr (by simp [fd49])⟩
theorem fa50 : FaX fd50 50 :=
  ⟨FdOk.of Go.Proofs.Tryz.func50 (by kernel_rfl), by kernel_rfl, fun r hr => by
    simp only [fd50, List.mem_cons, List.not_mem_nil, or_false] at hr
    subst hr; kernel_rfl, fun r hr => absurd hr (by simp [fd50])⟩
theorem fa20 : FaX fd20 20 :=
  ⟨FdOk.of Go.Proofs.Tryz.func20 (by kernel_rfl), by kernel_rfl, fun r hr => absurd hr (by simp [fd20]), fun r hr => absurd hr (by simp [fd20])⟩
theorem fa53 : FaX fd53 53 :=
  ⟨FdOk.of Go.Proofs.Tryz.func53 (by kernel_rfl), by kernel_rfl, fun r hr => by
    simp only [fd53, List.mem_cons, List.not_mem_nil, or_false] at hr
    subst hr; kernel_rfl, fun r hr => absurd hr (by simp [fd53])⟩
theorem fa23 : FaX fd23 23 :=
  ⟨FdOk.of Go.Proofs.Tryz.func23 (by kernel_rfl), by kernel_rfl, fun r hr => absurd hr (by simp [fd23]), fun r hr => absurd hr (by simp [fd23])⟩
theorem fa3 : FaX fd3 3 :=
  ⟨FdOk.of Go.Proofs.Tryz.func3 (by kernel_rfl), by kernel_rfl, fun r hr => by
    simp only [fd3, List.mem_cons, List.not_mem_nil, or_false] at hr
    subst hr; kernel_rfl, fun r hr => absurd hr (by simp [fd3])⟩
def lay10006_ren : Go.Shelf.Ren := ⟨fun | 6 => 84 | 15 => 115 | 14 => 114 | 28 => 133 | 29 => 134 | 20 => 125 | 21 => 126 | 22 => 127 | 23 => 128 | 24 => 129 | 25 => 130 | 26 => 131 | 27 => 132 | 46 => 137 | 47 => 138 | 48 => 139 | 49 => 140 | 50 => 141 | 57 => 143 | n => n, fun | 22 => 35 | 24 => 26 | 25 => 90 | 3 => 3 | 39 => 98 | 0 => 0 | 53 => 124 | 55 => 47 | 4 => 4 | 46 => 117 | 45 => 116 | 50 => 121 | 5 => 5 | 9 => 9 | 66 => 128 | 70 => 132 | 76 => 135 | 77 => 136 | n => n, fun | n => n⟩
theorem lay10006 : Go.Proofs.SlLaysF0.n6 Go.Proofs.Tryz.prog lay10006_ren where
  mixed := by kernel_rfl
  f6 := ⟨ "slices.SortFunc[[]loop.example/g01205/impl.Normal,loop.example/g01205/impl.Normal]", by decide, Go.Proofs.Tryz.func84.trans (congrArg some (by kernel_rfl))⟩
  f14 := ⟨ "slices.pdqsortCmpFunc[loop.example/g01205/impl.Normal]", by decide, Go.Proofs.Tryz.func114.trans (congrArg some (by kernel_rfl))⟩
  f15 := Go.Proofs.Tryz.func115.trans (congrArg some (by kernel_rfl))
  f20 := ⟨ "slices.insertionSortCmpFunc[loop.example/g01205/impl.Normal]", by decide, Go.Proofs.Tryz.func125.trans (congrArg some (by kernel_rfl))⟩
  f21 := ⟨ "slices.heapSortCmpFunc[loop.example/g01205/impl.Normal]", by decide, Go.Proofs.Tryz.func126.trans (congrArg some (by kernel_rfl))⟩
  f22 := ⟨ "slices.breakPatternsCmpFunc[loop.example/g01205/impl.Normal]", by decide, Go.Proofs.Tryz.func127.trans (congrArg some (by kernel_rfl))⟩
  f23 := ⟨ "slices.choosePivotCmpFunc[loop.example/g01205/impl.Normal]", by decide, Go.Proofs.Tryz.func128.trans (congrArg some (by kernel_rfl))⟩
  f24 := ⟨ "slices.reverseRangeCmpFunc[loop.example/g01205/impl.Normal]", by decide, Go.Proofs.Tryz.func129.trans (congrArg some (by kernel_rfl))⟩
  f25 := ⟨ "slices.partialInsertionSortCmpFunc[loop.example/g01205/impl.Normal]", by decide, Go.Proofs.Tryz.func130.trans (congrArg some (by kernel_rfl))⟩
  f26 := ⟨ "slices.partitionEqualCmpFunc[loop.example/g01205/impl.Normal]", by decide, Go.Proofs.Tryz.func131.trans (congrArg some (by kernel_rfl))⟩
  f27 := ⟨ "slices.partitionCmpFunc[loop.example/g01205/impl.Normal]", by decide, Go.Proofs.Tryz.func132.trans (congrArg some (by kernel_rfl))⟩
  f28 := Go.Proofs.Tryz.func133.trans (congrArg some (by kernel_rfl))
  f29 := Go.Proofs.Tryz.func134.trans (congrArg some (by kernel_rfl))
  f46 := ⟨ "slices.siftDownCmpFunc[loop.example/g01205/impl.Normal]", by decide, Go.Proofs.Tryz.func137.trans (congrArg some (by kernel_rfl))⟩
  f47 := Go.Proofs.Tryz.func138.trans (congrArg some (by kernel_rfl))
  f48 := Go.Proofs.Tryz.func139.trans (congrArg some (by kernel_rfl))
  f49 := ⟨ "slices.medianAdjacentCmpFunc[loop.example/g01205/impl.Normal]", by decide, Go.Proofs.Tryz.func140.trans (congrArg some (by kernel_rfl))⟩
  f50 := ⟨ "slices.medianCmpFunc[loop.example/g01205/impl.Normal]", by decide, Go.Proofs.Tryz.func141.trans (congrArg some (by kernel_rfl))⟩
  f57 := ⟨ "slices.order2CmpFunc[loop.example/g01205/impl.Normal]", by decide, Go.Proofs.Tryz.func143.trans (congrArg some (by kernel_rfl))⟩
  t0 := Go.Proofs.Tryz.underlying0
  a0 := Go.Proofs.Tryz.isAgg0
  z0 := Go.Proofs.Tryz.sizeOf0
  v0 := Go.Proofs.Tryz.zeroValue0
  t3 := Go.Proofs.Tryz.underlying3
  a3 := Go.Proofs.Tryz.isAgg3
  z3 := Go.Proofs.Tryz.sizeOf3
  v3 := Go.Proofs.Tryz.zeroValue3
  t4 := Go.Proofs.Tryz.underlying4
  a4 := Go.Proofs.Tryz.isAgg4
  z4 := Go.Proofs.Tryz.sizeOf4
  v4 := Go.Proofs.Tryz.zeroValue4
  t5 := Go.Proofs.Tryz.underlying5
  a5 := Go.Proofs.Tryz.isAgg5
  z5 := Go.Proofs.Tryz.sizeOf5
  v5 := Go.Proofs.Tryz.zeroValue5
  t9 := Go.Proofs.Tryz.underlying9
  a9 := Go.Proofs.Tryz.isAgg9
  z9 := Go.Proofs.Tryz.sizeOf9
  v9 := Go.Proofs.Tryz.zeroValue9
  t22 := Go.Proofs.Tryz.underlying35
  a22 := Go.Proofs.Tryz.isAgg35
  z22 := Go.Proofs.Tryz.sizeOf35
  v22 := Go.Proofs.Tryz.zeroValue35
  t25 := Go.Proofs.Tryz.underlying90
  a25 := Go.Proofs.Tryz.isAgg90
  z25 := Go.Proofs.Tryz.sizeOf90
  v25 := Go.Proofs.Tryz.zeroValue90
  t39 := Go.Proofs.Tryz.underlying98
  a39 := Go.Proofs.Tryz.isAgg98
  z39 := Go.Proofs.Tryz.sizeOf98
  v39 := Go.Proofs.Tryz.zeroValue98
  t45 := Go.Proofs.Tryz.underlying116
  a45 := Go.Proofs.Tryz.isAgg116
  z45 := Go.Proofs.Tryz.sizeOf116
  v45 := Go.Proofs.Tryz.zeroValue116
  t46 := Go.Proofs.Tryz.underlying117
  a46 := Go.Proofs.Tryz.isAgg117
  z46 := Go.Proofs.Tryz.sizeOf117
  v46 := Go.Proofs.Tryz.zeroValue117
  t50 := Go.Proofs.Tryz.underlying121
  a50 := Go.Proofs.Tryz.isAgg121
  z50 := Go.Proofs.Tryz.sizeOf121
  v50 := Go.Proofs.Tryz.zeroValue121
  t53 := Go.Proofs.Tryz.underlying124
  a53 := Go.Proofs.Tryz.isAgg124
  z53 := Go.Proofs.Tryz.sizeOf124
  v53 := Go.Proofs.Tryz.zeroValue124
  t55 := Go.Proofs.Tryz.underlying47
  a55 := Go.Proofs.Tryz.isAgg47
  z55 := Go.Proofs.Tryz.sizeOf47
  v55 := Go.Proofs.Tryz.zeroValue47
  t66 := Go.Proofs.Tryz.underlying128
  a66 := Go.Proofs.Tryz.isAgg128
  z66 := Go.Proofs.Tryz.sizeOf128
  v66 := Go.Proofs.Tryz.zeroValue128
  t70 := Go.Proofs.Tryz.underlying132
  a70 := Go.Proofs.Tryz.isAgg132
  z70 := Go.Proofs.Tryz.sizeOf132
  v70 := Go.Proofs.Tryz.zeroValue132
  t76 := Go.Proofs.Tryz.underlying135
  a76 := Go.Proofs.Tryz.isAgg135
  z76 := Go.Proofs.Tryz.sizeOf135
  v76 := Go.Proofs.Tryz.zeroValue135
  t77 := Go.Proofs.Tryz.underlying136
  a77 := Go.Proofs.Tryz.isAgg136
  z77 := Go.Proofs.Tryz.sizeOf136
  v77 := Go.Proofs.Tryz.zeroValue136
theorem fx10006 : ∃ fd, E.fd 10006 = some fd ∧ ExtOk Go.Proofs.Tryz.prog E fd (.sort 85 (.pair (.int .i64) (.pair (.int .i64) (.slice (.arr .u8 8))))) :=
  ⟨fd10006, by kernel_rfl, sort_ok (T := 26) lay10006 ((envTy_of rfl tyOk strOk).ty _ _ (by kernel_rfl)) rfl Go.Proofs.Tryz.isAgg26 Go.Proofs.Tryz.sizeOf26 rfl (.inr rfl) rfl (by kernel_rfl) (by kernel_rfl) fa85.1 rfl rfl⟩
theorem envOk : EnvOk Go.Proofs.Tryz.prog E := EnvOk.of (envTy_of rfl tyOk strOk) (by kernel_rfl) rfl (by
  simp only [fdTab, List.forall_mem_cons]
  exact ⟨fa4, fa25, fa56, fa54, fa55, fa71, fa99, fa61, fa107, fa104, fa100, fa103, fa123, fa106, fa105, fa74, fa31, fa98, fa57, fa59, fa58, fa101, fa60, fa24, fa5, fa76, fa75, fa77, fa78, fa79, fa108, fa110, fa109, fa80, fa32, fa68, fa111, fa122, fa102, fa120, fa136, fa119, fa94, fa63, fa64, fa10001, fa65, fa67, fa66, fa10002, fa27, fa34, fa10000, fa6, fa69, fa70, fa72, fa28, fa90, fa40, fa73, fa29, fa30, fa7, fa8, fa9, fa10, fa11, fa95, fa124, fa112, fa81, fa97, fa121, fa96, fa52, fa113, fa82, fa91, fa46, fa83, fa10004, fa10003, fa144, fa142, fa135, fa117, fa10005, fa85, fa10006, fa33, fa12, fa35, fa86, fa118, fa87, fa92, fa41, fa48, fa36, fa13, fa14, fa89, fa10010, fa10009, fa39, fa38, fa10008, fa10007, fa15, fa16, fa42, fa17, fa43, fa45, fa10012, fa10011, fa18, fa47, fa19, fa22, fa51, fa21, fa93, fa49, fa50, fa20, fa53, fa23, fa3, fun q hq => absurd hq (by simp)⟩) rfl (by
  simp only [extTab, List.forall_mem_cons]
  exact ⟨fx10006, fun q hq => absurd hq (by simp)⟩)
end Go.Ev.YtfkpbhbghbhmgaaGreat
