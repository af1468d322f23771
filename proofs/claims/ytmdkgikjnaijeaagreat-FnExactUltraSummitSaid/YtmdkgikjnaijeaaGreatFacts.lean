/- The evaluator's tables are the program's. -/
import Derived.KernelRfl
import Derived.Test.YtmdkgikjnaijeaaGreatDl
import Derived.Test.YtmdkgikjnaijeaaGreatEnv
import Derived.Test.YtmdkgikjnaijeaaGreatV5
set_option linter.unusedVariables false
namespace Go.Ev.YtmdkgikjnaijeaaGreat
open Go.Ev
theorem zQ6 : E.str.all (isStrB Go.Proofs.Tryz.prog) = true := by kernel_rfl
def FaX (d : FD) (n : Nat) : Prop := FdOk Go.Proofs.Tryz.prog d ∧ E.ld n = none ∧ (∀ r ∈ d.loops, E.ld r.2.lid = some ⟨n, r.1, r.2, false⟩) ∧ ∀ r ∈ d.joins, E.ld r.2.lid = some ⟨n, r.1, r.2, true⟩
theorem tyOk : tyTab.all (fun q => tyOkB Go.Proofs.Tryz.prog q.2 q.1) = true := by kernel_rfl
theorem fa13 : FaX fd13 13 :=
  ⟨FdOk.of Go.Proofs.Tryz.func13 (by kernel_rfl), by kernel_rfl, fun r hr => absurd hr (by simp [fd13]), fun r hr => absurd hr (by simp [fd13])⟩
theorem fa4 : FaX fd4 4 :=
  ⟨FdOk.of Go.Proofs.Tryz.func4 (by kernel_rfl), by kernel_rfl, fun r hr => absurd hr (by simp [fd4]), fun r hr => absurd hr (by simp [fd4])⟩
theorem fa30 : FaX fd30 30 :=
  ⟨FdOk.of Go.Proofs.Tryz.func30 (by kernel_rfl), by kernel_rfl, fun r hr => by
    simp only [fd30, List.mem_cons, List.not_mem_nil, or_false] at hr
    subst hr; kernel_rfl, fun r hr => absurd hr (by simp [fd30])⟩
theorem fa17 : FaX fd17 17 :=
  ⟨FdOk.of Go.Proofs.Tryz.func17 (by kernel_rfl), by kernel_rfl, fun r hr => by
    simp only [fd17, List.mem_cons, List.not_mem_nil, or_false] at hr
    subst hr; kernel_rfl, fun r hr => absurd hr (by simp [fd17])⟩
theorem fa6 : FaX fd6 6 :=
  ⟨FdOk.of Go.Proofs.Tryz.func6 (by kernel_rfl), by kernel_rfl, fun r hr => absurd hr (by simp [fd6]), fun r hr => absurd hr (by simp [fd6])⟩
theorem fa46 : FaX fd46 46 :=
  ⟨FdOk.of Go.Proofs.Tryz.func46 (by kernel_rfl), by kernel_rfl, fun r hr => absurd hr (by simp [fd46]), fun r hr => absurd hr (by simp [fd46])⟩
theorem fa66 : FaX fd66 66 :=
  ⟨FdOk.of Go.Proofs.Tryz.func66 (by kernel_rfl), by kernel_rfl, fun r hr => by
    simp only [fd66, List.mem_cons, List.not_mem_nil, or_false] at hr
    subst hr; kernel_rfl, fun r hr => absurd hr (by simp [fd66])⟩
theorem fa43 : FaX fd43 43 :=
  ⟨FdOk.of Go.Proofs.Tryz.func43 (by kernel_rfl), by kernel_rfl, fun r hr => by
    simp only [fd43, List.mem_cons, List.not_mem_nil, or_false] at hr
    subst hr; kernel_rfl, fun r hr => absurd hr (by simp [fd43])⟩
theorem fa48 : FaX fd48 48 :=
  ⟨FdOk.of Go.Proofs.Tryz.func48 (by kernel_rfl), by kernel_rfl, fun r hr => by
    simp only [fd48, List.mem_cons, List.not_mem_nil, or_false] at hr
    subst hr; kernel_rfl, fun r hr => absurd hr (by simp [fd48])⟩
theorem fa75 : FaX fd75 75 :=
  ⟨FdOk.of Go.Proofs.Tryz.func75 (by kernel_rfl), by kernel_rfl, fun r hr => by
    simp only [fd75, List.mem_cons, List.not_mem_nil, or_false] at hr
    subst hr; kernel_rfl, fun r hr => absurd hr (by simp [fd75])⟩
theorem fa67 : FaX fd67 67 :=
  ⟨FdOk.of Go.Proofs.Tryz.func67 (by kernel_rfl), by kernel_rfl, fun r hr => by
    simp only [fd67, List.mem_cons, List.not_mem_nil, or_false] at hr
    subst hr; kernel_rfl, fun r hr => absurd hr (by simp [fd67])⟩
theorem fa40 : FaX fd40 40 :=
  ⟨FdOk.of Go.Proofs.Tryz.func40 (by kernel_rfl), by kernel_rfl, fun r hr => by
    simp only [fd40, List.mem_cons, List.not_mem_nil, or_false] at hr
    subst hr; kernel_rfl, fun r hr => absurd hr (by simp [fd40])⟩
theorem fa25 : FaX fd25 25 :=
  ⟨FdOk.of Go.Proofs.Tryz.func25 (by kernel_rfl), by kernel_rfl, fun r hr => absurd hr (by simp [fd25]), fun r hr => absurd hr (by simp [fd25])⟩
theorem fa74 : FaX fd74 74 :=
  ⟨FdOk.of Go.Proofs.Tryz.func74 (by kernel_rfl), by kernel_rfl, fun r hr => by
    simp only [fd74, List.mem_cons, List.not_mem_nil, or_false] at hr
    subst hr; kernel_rfl, fun r hr => absurd hr (by simp [fd74])⟩
theorem fa49 : FaX fd49 49 :=
  ⟨FdOk.of Go.Proofs.Tryz.func49 (by kernel_rfl), by kernel_rfl, fun r hr => absurd hr (by simp [fd49]), fun r hr => absurd hr (by simp [fd49])⟩
theorem fa29 : FaX fd29 29 :=
  ⟨FdOk.of Go.Proofs.Tryz.func29 (by kernel_rfl), by kernel_rfl, fun r hr => absurd hr (by simp [fd29]), fun r hr => absurd hr (by simp [fd29])⟩
theorem fa73 : FaX fd73 73 :=
  ⟨FdOk.of Go.Proofs.Tryz.func73 (by kernel_rfl), by kernel_rfl, fun r hr => absurd hr (by simp [fd73]), fun r hr => absurd hr (by simp [fd73])⟩
theorem fa97 : FaX fd97 97 :=
  ⟨FdOk.of Go.Proofs.Tryz.func97 (by kernel_rfl), by kernel_rfl, fun r hr => absurd hr (by simp [fd97]), fun r hr => absurd hr (by simp [fd97])⟩
theorem fa72 : FaX fd72 72 :=
  ⟨FdOk.of Go.Proofs.Tryz.func72 (by kernel_rfl), by kernel_rfl, fun r hr => by
    simp only [fd72, List.mem_cons, List.not_mem_nil, or_false] at hr
    subst hr; kernel_rfl, fun r hr => absurd hr (by simp [fd72])⟩
theorem fa47 : FaX fd47 47 :=
  ⟨FdOk.of Go.Proofs.Tryz.func47 (by kernel_rfl), by kernel_rfl, fun r hr => by
    simp only [fd47, List.mem_cons, List.not_mem_nil, or_false] at hr
    rcases hr with rfl | rfl <;> kernel_rfl, fun r hr => absurd hr (by simp [fd47])⟩
theorem fa28 : FaX fd28 28 :=
  ⟨FdOk.of Go.Proofs.Tryz.func28 (by kernel_rfl), by kernel_rfl, fun r hr => by
    simp only [fd28, List.mem_cons, List.not_mem_nil, or_false] at hr
    rcases hr with rfl | rfl <;> kernel_rfl, fun r hr => absurd hr (by simp [fd28])⟩
theorem fa15 : FaX fd15 15 :=
  ⟨FdOk.of Go.Proofs.Tryz.func15 (by kernel_rfl), by kernel_rfl, fun r hr => absurd hr (by simp [fd15]), fun r hr => absurd hr (by simp [fd15])⟩
theorem fa68 : FaX fd68 68 :=
  ⟨FdOk.of Go.Proofs.Tryz.func68 (by kernel_rfl), by kernel_rfl, fun r hr => absurd hr (by simp [fd68]), fun r hr => absurd hr (by simp [fd68])⟩
theorem fa41 : FaX fd41 41 :=
  ⟨FdOk.of Go.Proofs.Tryz.func41 (by kernel_rfl), by kernel_rfl, fun r hr => by
    simp only [fd41, List.mem_cons, List.not_mem_nil, or_false] at hr
    rcases hr with rfl | rfl | rfl <;> kernel_rfl, fun r hr => absurd hr (by simp [fd41])⟩
theorem fa42 : FaX fd42 42 :=
  ⟨FdOk.of Go.Proofs.Tryz.func42 (by kernel_rfl), by kernel_rfl, fun r hr => by
    simp only [fd42, List.mem_cons, List.not_mem_nil, or_false] at hr
    subst hr; kernel_rfl, fun r hr => absurd hr (by simp [fd42])⟩
theorem fa96 : FaX fd96 96 :=
  ⟨FdOk.of Go.Proofs.Tryz.func96 (by kernel_rfl), by kernel_rfl, fun r hr => absurd hr (by simp [fd96]), fun r hr => absurd hr (by simp [fd96])⟩
theorem fa70 : FaX fd70 70 :=
  ⟨FdOk.of Go.Proofs.Tryz.func70 (by kernel_rfl), by kernel_rfl, fun r hr => absurd hr (by simp [fd70]), fun r hr => absurd hr (by simp [fd70])⟩
theorem fa95 : FaX fd95 95 :=
  ⟨FdOk.of Go.Proofs.Tryz.func95 (by kernel_rfl), by kernel_rfl, fun r hr => by
    simp only [fd95, List.mem_cons, List.not_mem_nil, or_false] at hr
    subst hr; kernel_rfl, fun r hr => absurd hr (by simp [fd95])⟩
theorem fa69 : FaX fd69 69 :=
  ⟨FdOk.of Go.Proofs.Tryz.func69 (by kernel_rfl), by kernel_rfl, fun r hr => absurd hr (by simp [fd69]), fun r hr => absurd hr (by simp [fd69])⟩
theorem fa44 : FaX fd44 44 :=
  ⟨FdOk.of Go.Proofs.Tryz.func44 (by kernel_rfl), by kernel_rfl, fun r hr => absurd hr (by simp [fd44]), fun r hr => absurd hr (by simp [fd44])⟩
theorem fa71 : FaX fd71 71 :=
  ⟨FdOk.of Go.Proofs.Tryz.func71 (by kernel_rfl), by kernel_rfl, fun r hr => by
    simp only [fd71, List.mem_cons, List.not_mem_nil, or_false] at hr
    rcases hr with rfl | rfl <;> kernel_rfl, fun r hr => absurd hr (by simp [fd71])⟩
theorem fa16 : FaX fd16 16 :=
  ⟨FdOk.of Go.Proofs.Tryz.func16 (by kernel_rfl), by kernel_rfl, fun r hr => by
    simp only [fd16, List.mem_cons, List.not_mem_nil, or_false] at hr
    subst hr; kernel_rfl, fun r hr => absurd hr (by simp [fd16])⟩
theorem fa45 : FaX fd45 45 :=
  ⟨FdOk.of Go.Proofs.Tryz.func45 (by kernel_rfl), by kernel_rfl, fun r hr => by
    simp only [fd45, List.mem_cons, List.not_mem_nil, or_false] at hr
    subst hr; kernel_rfl, fun r hr => absurd hr (by simp [fd45])⟩
theorem fa26 : FaX fd26 26 :=
  ⟨FdOk.of Go.Proofs.Tryz.func26 (by kernel_rfl), by kernel_rfl, fun r hr => by
    simp only [fd26, List.mem_cons, List.not_mem_nil, or_false] at hr
    rcases hr with rfl | rfl <;> kernel_rfl, fun r hr => absurd hr (by simp [fd26])⟩
theorem fa27 : FaX fd27 27 :=
  ⟨FdOk.of Go.Proofs.Tryz.func27 (by kernel_rfl), by kernel_rfl, fun r hr => absurd hr (by simp [fd27]), fun r hr => absurd hr (by simp [fd27])⟩
theorem fa14 : FaX fd14 14 :=
  ⟨FdOk.of Go.Proofs.Tryz.func14 (by kernel_rfl), by kernel_rfl, fun r hr => by
    simp only [fd14, List.mem_cons, List.not_mem_nil, or_false] at hr
    subst hr; kernel_rfl, fun r hr => absurd hr (by simp [fd14])⟩
theorem fa5 : FaX fd5 5 :=
  ⟨FdOk.of Go.Proofs.Tryz.func5 (by kernel_rfl), by kernel_rfl, fun r hr => by
    simp only [fd5, List.mem_cons, List.not_mem_nil, or_false] at hr
    rcases hr with rfl | rfl <;> kernel_rfl, fun r hr => absurd hr (by simp [fd5])⟩
theorem fa51 : FaX fd51 51 :=
  ⟨FdOk.of Go.Proofs.Tryz.func51 (by kernel_rfl), by kernel_rfl, fun r hr => absurd hr (by simp [fd51]), fun r hr => absurd hr (by simp [fd51])⟩
theorem fa50 : FaX fd50 50 :=
  ⟨FdOk.of Go.Proofs.Tryz.func50 (by kernel_rfl), by kernel_rfl, fun r hr => absurd hr (by simp [fd50]), fun r hr => absurd hr (by simp [fd50])⟩
theorem fa52 : FaX fd52 52 :=
  ⟨FdOk.of Go.Proofs.Tryz.func52 (by kernel_rfl), by kernel_rfl, fun r hr => by
    simp only [fd52, List.mem_cons, List.not_mem_nil, or_false] at hr
    subst hr; kernel_rfl, fun r hr => absurd hr (by simp [fd52])⟩
theorem fa53 : FaX fd53 53 :=
  ⟨FdOk.of Go.Proofs.Tryz.func53 (by kernel_rfl), by kernel_rfl, fun r hr => by
    simp only [fd53, List.mem_cons, List.not_mem_nil, or_false] at hr
    subst hr; kernel_rfl, fun r hr => absurd hr (by simp [fd53])⟩
theorem fa54 : FaX fd54 54 :=
  ⟨FdOk.of Go.Proofs.Tryz.func54 (by kernel_rfl), by kernel_rfl, fun r hr => by
    simp only [fd54, List.mem_cons, List.not_mem_nil, or_false] at hr
    subst hr; kernel_rfl, fun r hr => absurd hr (by simp [fd54])⟩
theorem fa76 : FaX fd76 76 :=
  ⟨FdOk.of Go.Proofs.Tryz.func76 (by kernel_rfl), by kernel_rfl, fun r hr => by
    simp only [fd76, List.mem_cons, List.not_mem_nil, or_false] at hr
    subst hr; kernel_rfl, fun r hr => absurd hr (by simp [fd76])⟩
theorem fa78 : FaX fd78 78 :=
  ⟨FdOk.of Go.Proofs.Tryz.func78 (by kernel_rfl), by kernel_rfl, fun r hr => absurd hr (by simp [fd78]), fun r hr => absurd hr (by simp [fd78])⟩
theorem fa77 : FaX fd77 77 :=
  ⟨FdOk.of Go.Proofs.Tryz.func77 (by kernel_rfl), by kernel_rfl, fun r hr => by
    simp only [fd77, List.mem_cons, List.not_mem_nil, or_false] at hr
    subst hr; kernel_rfl, fun r hr => absurd hr (by simp [fd77])⟩
theorem fa55 : FaX fd55 55 :=
  ⟨FdOk.of Go.Proofs.Tryz.func55 (by kernel_rfl), by kernel_rfl, fun r hr => by
    simp only [fd55, List.mem_cons, List.not_mem_nil, or_false] at hr
    subst hr; kernel_rfl, fun r hr => absurd hr (by simp [fd55])⟩
theorem fa31 : FaX fd31 31 :=
  ⟨FdOk.of Go.Proofs.Tryz.func31 (by kernel_rfl), by kernel_rfl, fun r hr => by
    simp only [fd31, List.mem_cons, List.not_mem_nil, or_false] at hr
    subst hr; kernel_rfl, fun r hr => absurd hr (by simp [fd31])⟩
theorem fa62 : FaX fd62 62 :=
  ⟨FdOk.of Go.Proofs.Tryz.func62 (by kernel_rfl), by kernel_rfl, fun r hr => absurd hr (by simp [fd62]), fun r hr => absurd hr (by simp [fd62])⟩
theorem fa84 : FaX fd84 84 :=
  ⟨FdOk.of Go.Proofs.Tryz.func84 (by kernel_rfl), by kernel_rfl, fun r hr => by
    simp only [fd84, List.mem_cons, List.not_mem_nil, or_false] at hr
    subst hr; kernel_rfl, fun r hr => absurd hr (by simp [fd84])⟩
theorem fa94 : FaX fd94 94 :=
  ⟨FdOk.of Go.Proofs.Tryz.func94 (by kernel_rfl), by kernel_rfl, fun r hr => absurd hr (by simp [fd94]), fun r hr => absurd hr (by simp [fd94])⟩
theorem fa64 : FaX fd64 64 :=
  ⟨FdOk.of Go.Proofs.Tryz.func64 (by kernel_rfl), by kernel_rfl, fun r hr => absurd hr (by simp [fd64]), fun r hr => absurd hr (by simp [fd64])⟩
theorem fa93 : FaX fd93 93 :=
  ⟨FdOk.of Go.Proofs.Tryz.func93 (by kernel_rfl), by kernel_rfl, fun r hr => absurd hr (by simp [fd93]), fun r hr => absurd hr (by simp [fd93])⟩
theorem zVv : FaX fd112 112 :=
  ⟨FdOk.of Go.Proofs.Tryz.func112 (by kernel_rfl), by kernel_rfl, fun r hr => by
    simp only [fd112, List.mem_cons, List.not_mem_nil, or_false] at hr
    rcases hr with rfl | rfl <;> kernel_rfl, fun r hr => absurd hr (by simp [fd112])⟩
theorem fa92 : FaX fd92 92 :=
  ⟨FdOk.of Go.Proofs.Tryz.func92 (by kernel_rfl), by kernel_rfl, fun r hr => by
    simp only [fd92, List.mem_cons, List.not_mem_nil, or_false] at hr
    rcases hr with rfl | rfl <;> kernel_rfl, fun r hr => absurd hr (by simp [fd92])⟩
theorem fa63 : FaX fd63 63 :=
  ⟨FdOk.of Go.Proofs.Tryz.func63 (by kernel_rfl), by kernel_rfl, fun r hr => by
    simp only [fd63, List.mem_cons, List.not_mem_nil, or_false] at hr
    rcases hr with rfl | rfl | rfl <;> kernel_rfl, fun r hr => absurd hr (by simp [fd63])⟩
theorem fa35 : FaX fd35 35 :=
  ⟨FdOk.of Go.Proofs.Tryz.func35 (by kernel_rfl), by kernel_rfl, fun r hr => absurd hr (by simp [fd35]), fun r hr => absurd hr (by simp [fd35])⟩
theorem fa80 : FaX fd80 80 :=
  ⟨FdOk.of Go.Proofs.Tryz.func80 (by kernel_rfl), by kernel_rfl, fun r hr => absurd hr (by simp [fd80]), fun r hr => absurd hr (by simp [fd80])⟩
theorem zUb : FaX fd10000 10000 :=
  ⟨FdOk.of Go.Proofs.Tryz.func79 (by kernel_rfl), by kernel_rfl, fun r hr => by
    simp only [fd10000, List.mem_cons, List.not_mem_nil, or_false] at hr
    subst hr; kernel_rfl, fun r hr => absurd hr (by simp [fd10000])⟩
theorem fa81 : FaX fd81 81 :=
  ⟨FdOk.of Go.Proofs.Tryz.func81 (by kernel_rfl), by kernel_rfl, fun r hr => by
    simp only [fd81, List.mem_cons, List.not_mem_nil, or_false] at hr
    subst hr; kernel_rfl, fun r hr => absurd hr (by simp [fd81])⟩
theorem fa83 : FaX fd83 83 :=
  ⟨FdOk.of Go.Proofs.Tryz.func83 (by kernel_rfl), by kernel_rfl, fun r hr => absurd hr (by simp [fd83]), fun r hr => absurd hr (by simp [fd83])⟩
theorem fa82 : FaX fd82 82 :=
  ⟨FdOk.of Go.Proofs.Tryz.func82 (by kernel_rfl), by kernel_rfl, fun r hr => absurd hr (by simp [fd82]), fun r hr => absurd hr (by simp [fd82])⟩
theorem zUa : FaX fd10001 10001 :=
  ⟨FdOk.of Go.Proofs.Tryz.func79 (by kernel_rfl), by kernel_rfl, fun r hr => by
    simp only [fd10001, List.mem_cons, List.not_mem_nil, or_false] at hr
    subst hr; kernel_rfl, fun r hr => absurd hr (by simp [fd10001])⟩
theorem fa56 : FaX fd56 56 :=
  ⟨FdOk.of Go.Proofs.Tryz.func56 (by kernel_rfl), by kernel_rfl, fun r hr => by
    simp only [fd56, List.mem_cons, List.not_mem_nil, or_false] at hr
    subst hr; kernel_rfl, fun r hr => absurd hr (by simp [fd56])⟩
theorem fa85 : FaX fd85 85 :=
  ⟨FdOk.of Go.Proofs.Tryz.func85 (by kernel_rfl), by kernel_rfl, fun r hr => absurd hr (by simp [fd85]), fun r hr => absurd hr (by simp [fd85])⟩
theorem fa98 : FaX fd98 98 :=
  ⟨FdOk.of Go.Proofs.Tryz.func98 (by kernel_rfl), by kernel_rfl, fun r hr => by
    simp only [fd98, List.mem_cons, List.not_mem_nil, or_false] at hr
    subst hr; kernel_rfl, fun r hr => absurd hr (by simp [fd98])⟩
theorem fa86 : FaX fd86 86 :=
  ⟨FdOk.of Go.Proofs.Tryz.func86 (by kernel_rfl), by kernel_rfl, fun r hr => absurd hr (by simp [fd86]), fun r hr => absurd hr (by simp [fd86])⟩
theorem fa57 : FaX fd57 57 :=
  ⟨FdOk.of Go.Proofs.Tryz.func57 (by kernel_rfl), by kernel_rfl, fun r hr => by
    simp only [fd57, List.mem_cons, List.not_mem_nil, or_false] at hr
    rcases hr with rfl | rfl <;> kernel_rfl, fun r hr => absurd hr (by simp [fd57])⟩
theorem zVu : FaX fd113 113 :=
  ⟨FdOk.of Go.Proofs.Tryz.func113 (by kernel_rfl), by kernel_rfl, fun r hr => by
    simp only [fd113, List.mem_cons, List.not_mem_nil, or_false] at hr
    subst hr; kernel_rfl, fun r hr => absurd hr (by simp [fd113])⟩
theorem zVt : FaX fd114 114 :=
  ⟨FdOk.of Go.Proofs.Tryz.func114 (by kernel_rfl), by kernel_rfl, fun r hr => absurd hr (by simp [fd114]), fun r hr => absurd hr (by simp [fd114])⟩
theorem fa99 : FaX fd99 99 :=
  ⟨FdOk.of Go.Proofs.Tryz.func99 (by kernel_rfl), by kernel_rfl, fun r hr => absurd hr (by simp [fd99]), fun r hr => absurd hr (by simp [fd99])⟩
theorem zVx : FaX fd100 100 :=
  ⟨FdOk.of Go.Proofs.Tryz.func100 (by kernel_rfl), by kernel_rfl, fun r hr => by
    simp only [fd100, List.mem_cons, List.not_mem_nil, or_false] at hr
    subst hr; kernel_rfl, fun r hr => absurd hr (by simp [fd100])⟩
theorem fa87 : FaX fd87 87 :=
  ⟨FdOk.of Go.Proofs.Tryz.func87 (by kernel_rfl), by kernel_rfl, fun r hr => absurd hr (by simp [fd87]), fun r hr => absurd hr (by simp [fd87])⟩
theorem fa58 : FaX fd58 58 :=
  ⟨FdOk.of Go.Proofs.Tryz.func58 (by kernel_rfl), by kernel_rfl, fun r hr => absurd hr (by simp [fd58]), fun r hr => absurd hr (by simp [fd58])⟩
theorem fa65 : FaX fd65 65 :=
  ⟨FdOk.of Go.Proofs.Tryz.func65 (by kernel_rfl), by kernel_rfl, fun r hr => by
    simp only [fd65, List.mem_cons, List.not_mem_nil, or_false] at hr
    subst hr; kernel_rfl, fun r hr => absurd hr (by simp [fd65])⟩
theorem fa36 : FaX fd36 36 :=
  ⟨FdOk.of Go.Proofs.Tryz.func36 (by kernel_rfl), by kernel_rfl, fun r hr => absurd hr (by simp [fd36]), fun r hr => absurd hr (by simp [fd36])⟩
theorem fa59 : FaX fd59 59 :=
  ⟨FdOk.of Go.Proofs.Tryz.func59 (by kernel_rfl), by kernel_rfl, fun r hr => absurd hr (by simp [fd59]), fun r hr => absurd hr (by simp [fd59])⟩
theorem zUY : FaX fd10003 10003 :=
  ⟨FdOk.of Go.Proofs.Tryz.func34 (by kernel_rfl), by kernel_rfl, fun r hr => by
    simp only [fd10003, List.mem_cons, List.not_mem_nil, or_false] at hr
    subst hr; kernel_rfl, fun r hr => absurd hr (by simp [fd10003])⟩
theorem zUZ : FaX fd10002 10002 :=
  ⟨FdOk.of Go.Proofs.Tryz.func37 (by kernel_rfl), by kernel_rfl, fun r hr => absurd hr (by simp [fd10002]), fun r hr => absurd hr (by simp [fd10002])⟩
theorem zVr : FaX fd122 122 :=
  ⟨FdOk.of Go.Proofs.Tryz.func122 (by kernel_rfl), by kernel_rfl, fun r hr => absurd hr (by simp [fd122]), fun r hr => absurd hr (by simp [fd122])⟩
theorem zVs : FaX fd120 120 :=
  ⟨FdOk.of Go.Proofs.Tryz.func120 (by kernel_rfl), by kernel_rfl, fun r hr => absurd hr (by simp [fd120]), fun r hr => absurd hr (by simp [fd120])⟩
theorem zVw : FaX fd111 111 :=
  ⟨FdOk.of Go.Proofs.Tryz.func111 (by kernel_rfl), by kernel_rfl, fun r hr => by
    simp only [fd111, List.mem_cons, List.not_mem_nil, or_false] at hr
    subst hr; kernel_rfl, fun r hr => absurd hr (by simp [fd111])⟩
theorem fa91 : FaX fd91 91 :=
  ⟨FdOk.of Go.Proofs.Tryz.func91 (by kernel_rfl), by kernel_rfl, fun r hr => absurd hr (by simp [fd91]), fun r hr => absurd hr (by simp [fd91])⟩
theorem zUX : FaX fd10004 10004 :=
  ⟨FdOk.of Go.Proofs.Tryz.func90 (by kernel_rfl), by kernel_rfl, fun r hr => by
    simp only [fd10004, List.mem_cons, List.not_mem_nil, or_false] at hr
    subst hr; kernel_rfl, fun r hr => absurd hr (by simp [fd10004])⟩
theorem fa61 : FaX fd61 61 :=
  ⟨FdOk.of Go.Proofs.Tryz.func61 (by kernel_rfl), by kernel_rfl, fun r hr => absurd hr (by simp [fd61]), fun r hr => absurd hr (by simp [fd61])⟩
theorem zUW : FaX fd10005 10005 :=
  ⟨FdOk.of Go.Proofs.Tryz.func60 (by kernel_rfl), by kernel_rfl, fun r hr => absurd hr (by simp [fd10005]), fun r hr => absurd hr (by simp [fd10005])⟩
theorem fa32 : FaX fd32 32 :=
  ⟨FdOk.of Go.Proofs.Tryz.func32 (by kernel_rfl), by kernel_rfl, fun r hr => by
    simp only [fd32, List.mem_cons, List.not_mem_nil, or_false] at hr
    rcases hr with rfl | rfl <;> kernel_rfl, fun r hr => absurd hr (by simp [fd32])⟩
theorem fa33 : FaX fd33 33 :=
  ⟨FdOk.of Go.Proofs.Tryz.func33 (by kernel_rfl), by kernel_rfl, fun r hr => absurd hr (by simp [fd33]), fun r hr => absurd hr (by simp [fd33])⟩
theorem fa18 : FaX fd18 18 :=
  ⟨FdOk.of Go.Proofs.Tryz.func18 (by kernel_rfl), by kernel_rfl, fun r hr => absurd hr (by simp [fd18]), fun r hr => absurd hr (by simp [fd18])⟩
theorem fa38 : FaX fd38 38 :=
  ⟨FdOk.of Go.Proofs.Tryz.func38 (by kernel_rfl), by kernel_rfl, fun r hr => absurd hr (by simp [fd38]), fun r hr => absurd hr (by simp [fd38])⟩
theorem zUU : FaX fd10007 10007 :=
  ⟨FdOk.of Go.Proofs.Tryz.func34 (by kernel_rfl), by kernel_rfl, fun r hr => by
    simp only [fd10007, List.mem_cons, List.not_mem_nil, or_false] at hr
    subst hr; kernel_rfl, fun r hr => absurd hr (by simp [fd10007])⟩
theorem zUV : FaX fd10006 10006 :=
  ⟨FdOk.of Go.Proofs.Tryz.func37 (by kernel_rfl), by kernel_rfl, fun r hr => absurd hr (by simp [fd10006]), fun r hr => absurd hr (by simp [fd10006])⟩
theorem fa21 : FaX fd21 21 :=
  ⟨FdOk.of Go.Proofs.Tryz.func21 (by kernel_rfl), by kernel_rfl, fun r hr => by
    simp only [fd21, List.mem_cons, List.not_mem_nil, or_false] at hr
    subst hr; kernel_rfl, fun r hr => absurd hr (by simp [fd21])⟩
theorem fa20 : FaX fd20 20 :=
  ⟨FdOk.of Go.Proofs.Tryz.func20 (by kernel_rfl), by kernel_rfl, fun r hr => absurd hr (by simp [fd20]), fun r hr => absurd hr (by simp [fd20])⟩
theorem zUT : FaX fd10008 10008 :=
  ⟨FdOk.of Go.Proofs.Tryz.func19 (by kernel_rfl), by kernel_rfl, fun r hr => absurd hr (by simp [fd10008]), fun r hr => absurd hr (by simp [fd10008])⟩
theorem fa7 : FaX fd7 7 :=
  ⟨FdOk.of Go.Proofs.Tryz.func7 (by kernel_rfl), by kernel_rfl, fun r hr => absurd hr (by simp [fd7]), fun r hr => absurd hr (by simp [fd7])⟩
theorem fa39 : FaX fd39 39 :=
  ⟨FdOk.of Go.Proofs.Tryz.func39 (by kernel_rfl), by kernel_rfl, fun r hr => by
    simp only [fd39, List.mem_cons, List.not_mem_nil, or_false] at hr
    subst hr; kernel_rfl, fun r hr => absurd hr (by simp [fd39])⟩
theorem fa22 : FaX fd22 22 :=
  ⟨FdOk.of Go.Proofs.Tryz.func22 (by kernel_rfl), by kernel_rfl, fun r hr => by
    simp only [fd22, List.mem_cons, List.not_mem_nil, or_false] at hr
    subst hr; kernel_rfl, fun r hr => absurd hr (by simp [fd22])⟩
theorem fa9 : FaX fd9 9 :=
  ⟨FdOk.of Go.Proofs.Tryz.func9 (by kernel_rfl), by kernel_rfl, fun r hr => absurd hr (by simp [fd9]), fun r hr => absurd hr (by simp [fd9])⟩
theorem fa8 : FaX fd8 8 :=
  ⟨FdOk.of Go.Proofs.Tryz.func8 (by kernel_rfl), by kernel_rfl, fun r hr => by
    simp only [fd8, List.mem_cons, List.not_mem_nil, or_false] at hr
    subst hr; kernel_rfl, fun r hr => absurd hr (by simp [fd8])⟩
theorem fa23 : FaX fd23 23 :=
  ⟨FdOk.of Go.Proofs.Tryz.func23 (by kernel_rfl), by kernel_rfl, fun r hr => by
    simp only [fd23, List.mem_cons, List.not_mem_nil, or_false] at hr
    rcases hr with rfl | rfl <;> kernel_rfl, fun r hr => absurd hr (by simp [fd23])⟩
theorem fa10 : FaX fd10 10 :=
  ⟨FdOk.of Go.Proofs.Tryz.func10 (by kernel_rfl), by kernel_rfl, fun r hr => absurd hr (by simp [fd10]), fun r hr => absurd hr (by simp [fd10])⟩
theorem fa11 : FaX fd11 11 :=
  ⟨FdOk.of Go.Proofs.Tryz.func11 (by kernel_rfl), by kernel_rfl, fun r hr => by
    simp only [fd11, List.mem_cons, List.not_mem_nil, or_false] at hr
    subst hr; kernel_rfl, fun r hr => absurd hr (by simp [fd11])⟩
theorem fa24 : FaX fd24 24 :=
  ⟨FdOk.of Go.Proofs.Tryz.func24 (by kernel_rfl), by kernel_rfl, fun r hr => by
    simp only [fd24, List.mem_cons, List.not_mem_nil, or_false] at hr
    rcases hr with rfl | rfl <;> kernel_rfl, fun r hr => absurd hr (by simp [fd24])⟩
theorem fa12 : FaX fd12 12 :=
  ⟨FdOk.of Go.Proofs.Tryz.func12 (by kernel_rfl), by kernel_rfl, fun r hr => by
    simp only [fd12, List.mem_cons, List.not_mem_nil, or_false] at hr
    subst hr; kernel_rfl, fun r hr => absurd hr (by simp [fd12])⟩
theorem fa3 : FaX fd3 3 :=
  ⟨FdOk.of Go.Proofs.Tryz.func3 (by kernel_rfl), by kernel_rfl, fun r hr => absurd hr (by simp [fd3]), fun r hr => by
    simp only [fd3, List.mem_cons, List.not_mem_nil, or_false] at hr
    subst hr; kernel_rfl⟩
def lay10005_ren : Go.Shelf.Ren := ⟨fun | 6 => 60 | 15 => 89 | 14 => 88 | 28 => 109 | 29 => 110 | 20 => 101 | 21 => 102 | 22 => 103 | 23 => 104 | 24 => 105 | 25 => 106 | 26 => 107 | 27 => 108 | 46 => 115 | 47 => 116 | 48 => 117 | 49 => 118 | 50 => 119 | 57 => 121 | n => n, fun | 22 => 26 | 24 => 31 | 25 => 70 | 3 => 3 | 39 => 84 | 0 => 0 | 53 => 100 | 55 => 102 | 4 => 4 | 46 => 93 | 45 => 92 | 50 => 97 | 5 => 5 | 9 => 9 | 66 => 107 | 70 => 111 | 76 => 114 | 77 => 115 | n => n, fun | n => n⟩
theorem zSm : Go.Proofs.SlLaysF0.n6 Go.Proofs.Tryz.prog lay10005_ren where
  mixed := by kernel_rfl
  f6 := ⟨ "slices.SortFunc[[]loop.example/g01205/impl.Normal,loop.example/g01205/impl.Normal]", by decide, Go.Proofs.Tryz.func60.trans (congrArg some (by kernel_rfl))⟩
  f14 := ⟨ "slices.pdqsortCmpFunc[loop.example/g01205/impl.Normal]", by decide, Go.Proofs.Tryz.func88.trans (congrArg some (by kernel_rfl))⟩
  f15 := Go.Proofs.Tryz.func89.trans (congrArg some (by kernel_rfl))
  f20 := ⟨ "slices.insertionSortCmpFunc[loop.example/g01205/impl.Normal]", by decide, Go.Proofs.Tryz.func101.trans (congrArg some (by kernel_rfl))⟩
  f21 := ⟨ "slices.heapSortCmpFunc[loop.example/g01205/impl.Normal]", by decide, Go.Proofs.Tryz.func102.trans (congrArg some (by kernel_rfl))⟩
  f22 := ⟨ "slices.breakPatternsCmpFunc[loop.example/g01205/impl.Normal]", by decide, Go.Proofs.Tryz.func103.trans (congrArg some (by kernel_rfl))⟩
  f23 := ⟨ "slices.choosePivotCmpFunc[loop.example/g01205/impl.Normal]", by decide, Go.Proofs.Tryz.func104.trans (congrArg some (by kernel_rfl))⟩
  f24 := ⟨ "slices.reverseRangeCmpFunc[loop.example/g01205/impl.Normal]", by decide, Go.Proofs.Tryz.func105.trans (congrArg some (by kernel_rfl))⟩
  f25 := ⟨ "slices.partialInsertionSortCmpFunc[loop.example/g01205/impl.Normal]", by decide, Go.Proofs.Tryz.func106.trans (congrArg some (by kernel_rfl))⟩
  f26 := ⟨ "slices.partitionEqualCmpFunc[loop.example/g01205/impl.Normal]", by decide, Go.Proofs.Tryz.func107.trans (congrArg some (by kernel_rfl))⟩
  f27 := ⟨ "slices.partitionCmpFunc[loop.example/g01205/impl.Normal]", by decide, Go.Proofs.Tryz.func108.trans (congrArg some (by kernel_rfl))⟩
  f28 := Go.Proofs.Tryz.func109.trans (congrArg some (by kernel_rfl))
  f29 := Go.Proofs.Tryz.func110.trans (congrArg some (by kernel_rfl))
  f46 := ⟨ "slices.siftDownCmpFunc[loop.example/g01205/impl.Normal]", by decide, Go.Proofs.Tryz.func115.trans (congrArg some (by kernel_rfl))⟩
  f47 := Go.Proofs.Tryz.func116.trans (congrArg some (by kernel_rfl))
  f48 := Go.Proofs.Tryz.func117.trans (congrArg some (by kernel_rfl))
  f49 := ⟨ "slices.medianAdjacentCmpFunc[loop.example/g01205/impl.Normal]", by decide, Go.Proofs.Tryz.func118.trans (congrArg some (by kernel_rfl))⟩
  f50 := ⟨ "slices.medianCmpFunc[loop.example/g01205/impl.Normal]", by decide, Go.Proofs.Tryz.func119.trans (congrArg some (by kernel_rfl))⟩
  f57 := ⟨ "slices.order2CmpFunc[loop.example/g01205/impl.Normal]", by decide, Go.Proofs.Tryz.func121.trans (congrArg some (by kernel_rfl))⟩
  t0 := Go.Proofs.Tryz.underlying0
  a0 := Go.Proofs.Tryz.isAgg0
  z0 := Go.Proofs.Tryz.sizeOf0
  v0 := Go.Proofs.Tryz.zeroValue0
  t3 := Go.Proofs.Tryz.underlying3
  a3 := Go.Proofs.Tryz.isAgg3
  z3 := Go.Proofs.Tryz.sizeOf3
  v3 := Go.Proofs.Tryz.zeroValue3
  t4 := Go.Proofs.Tryz.underlying4
  a4 := Go.Proofs.Tryz.isAgg4
  z4 := Go.Proofs.Tryz.sizeOf4
  v4 := Go.Proofs.Tryz.zeroValue4
  t5 := Go.Proofs.Tryz.underlying5
  a5 := Go.Proofs.Tryz.isAgg5
  z5 := Go.Proofs.Tryz.sizeOf5
  v5 := Go.Proofs.Tryz.zeroValue5
  t9 := Go.Proofs.Tryz.underlying9
  a9 := Go.Proofs.Tryz.isAgg9
  z9 := Go.Proofs.Tryz.sizeOf9
  v9 := Go.Proofs.Tryz.zeroValue9
  t22 := Go.Proofs.Tryz.underlying26
  a22 := Go.Proofs.Tryz.isAgg26
  z22 := Go.Proofs.Tryz.sizeOf26
  v22 := Go.Proofs.Tryz.zeroValue26
  t25 := Go.Proofs.Tryz.underlying70
  a25 := Go.Proofs.Tryz.isAgg70
  z25 := Go.Proofs.Tryz.sizeOf70
  v25 := Go.Proofs.Tryz.zeroValue70
  t39 := Go.Proofs.Tryz.underlying84
  a39 := Go.Proofs.Tryz.isAgg84
  z39 := Go.Proofs.Tryz.sizeOf84
  v39 := Go.Proofs.Tryz.zeroValue84
  t45 := Go.Proofs.Tryz.underlying92
  a45 := Go.Proofs.Tryz.isAgg92
  z45 := Go.Proofs.Tryz.sizeOf92
  v45 := Go.Proofs.Tryz.zeroValue92
  t46 := Go.Proofs.Tryz.underlying93
  a46 := Go.Proofs.Tryz.isAgg93
  z46 := Go.Proofs.Tryz.sizeOf93
  v46 := Go.Proofs.Tryz.zeroValue93
  t50 := Go.Proofs.Tryz.underlying97
  a50 := Go.Proofs.Tryz.isAgg97
  z50 := Go.Proofs.Tryz.sizeOf97
  v50 := Go.Proofs.Tryz.zeroValue97
  t53 := Go.Proofs.Tryz.underlying100
  a53 := Go.Proofs.Tryz.isAgg100
  z53 := Go.Proofs.Tryz.sizeOf100
  v53 := Go.Proofs.Tryz.zeroValue100
  t55 := Go.Proofs.Tryz.underlying102
  a55 := Go.Proofs.Tryz.isAgg102
  z55 := Go.Proofs.Tryz.sizeOf102
  v55 := Go.Proofs.Tryz.zeroValue102
  t66 := Go.Proofs.Tryz.underlying107
  a66 := Go.Proofs.Tryz.isAgg107
  z66 := Go.Proofs.Tryz.sizeOf107
  v66 := Go.Proofs.Tryz.zeroValue107
  t70 := Go.Proofs.Tryz.underlying111
  a70 := Go.Proofs.Tryz.isAgg111
  z70 := Go.Proofs.Tryz.sizeOf111
  v70 := Go.Proofs.Tryz.zeroValue111
  t76 := Go.Proofs.Tryz.underlying114
  a76 := Go.Proofs.Tryz.isAgg114
  z76 := Go.Proofs.Tryz.sizeOf114
  v76 := Go.Proofs.Tryz.zeroValue114
  t77 := Go.Proofs.Tryz.underlying115
  a77 := Go.Proofs.Tryz.isAgg115
  z77 := Go.Proofs.Tryz.sizeOf115
  v77 := Go.Proofs.Tryz.zeroValue115
theorem zUS : ∃ fd, E.fd 10005 = some fd ∧ ExtOk Go.Proofs.Tryz.prog E fd (.sort 61 (.pair (.int .i64) (.pair (.int .i64) (.slice (.arr .u8 8))))) :=
  ⟨fd10005, by kernel_rfl, zTv (T := 31) zSm ((zGl rfl tyOk zQ6).ty _ _ (by kernel_rfl)) rfl Go.Proofs.Tryz.isAgg31 Go.Proofs.Tryz.sizeOf31 rfl (.inl rfl) rfl (by kernel_rfl) (by kernel_rfl) fa61.1 rfl rfl⟩
theorem zUR : ∃ fd, E.fd 10008 = some fd ∧ ExtOk Go.Proofs.Tryz.prog E fd (.del 20 (.pair (.int .i64) (.pair (.int .i64) (.slice (.arr .u8 8))))) :=
  ⟨fd10008, by kernel_rfl, zVF (T := 31) (dres := 4) ((zGl rfl tyOk zQ6).ty _ _ (by kernel_rfl)) rfl (zSz (zGl rfl tyOk zQ6) (by kernel_rfl) (by kernel_rfl) rfl) (zS0 (zGl rfl tyOk zQ6) (t := .pair (.int .i64) (.pair (.int .i64) (.slice (.arr .u8 8)))) (by kernel_rfl)) rfl rfl (by kernel_rfl) (by decide) (by decide) rfl (by kernel_rfl) fa20.1 rfl rfl⟩
theorem envOk : EnvOk Go.Proofs.Tryz.prog E := EnvOk.of (zGl rfl tyOk zQ6) (by kernel_rfl) rfl (by
  simp only [fdTab, List.forall_mem_cons]
  exact ⟨fa13, fa4, fa30, fa17, fa6, fa46, fa66, fa43, fa48, fa75, fa67, fa40, fa25, fa74, fa49, fa29, fa73, fa97, fa72, fa47, fa28, fa15, fa68, fa41, fa42, fa96, fa70, fa95, fa69, fa44, fa71, fa16, fa45, fa26, fa27, fa14, fa5, fa51, fa50, fa52, fa53, fa54, fa76, fa78, fa77, fa55, fa31, fa62, fa84, fa94, fa64, fa93, zVv, fa92, fa63, fa35, fa80, zUb, fa81, fa83, fa82, zUa, fa56, fa85, fa98, fa86, fa57, zVu, zVt, fa99, zVx, fa87, fa58, fa65, fa36, fa59, zUY, zUZ, zVr, zVs, zVw, fa91, zUX, fa61, zUW, fa32, fa33, fa18, fa38, zUU, zUV, fa21, fa20, zUT, fa7, fa39, fa22, fa9, fa8, fa23, fa10, fa11, fa24, fa12, fa3, fun q hq => absurd hq (by simp)⟩) rfl (by
  simp only [extTab, List.forall_mem_cons]
  exact ⟨zUS, zUR, fun q hq => absurd hq (by simp)⟩)
end Go.Ev.YtmdkgikjnaijeaaGreat
