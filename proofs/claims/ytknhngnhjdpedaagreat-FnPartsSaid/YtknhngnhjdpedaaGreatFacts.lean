/- The evaluator's tables are the program's. -/
import Derived.KernelRfl
import Derived.Test.YtknhngnhjdpedaaGreatDp
import Derived.Test.YtknhngnhjdpedaaGreatEnv
import Derived.Test.YtknhngnhjdpedaaGreatV5
set_option linter.unusedVariables false
namespace Go.Ev.YtknhngnhjdpedaaGreat
open Go.Ev
theorem zRn : E.str.all (isStrB Go.Proofs.Tryz.prog) = true := by kernel_rfl
def FaX (d : FD) (n : Nat) : Prop := FdOk Go.Proofs.Tryz.prog d ∧ E.ld n = none ∧ (∀ r ∈ d.loops, E.ld r.2.lid = some ⟨n, r.1, r.2, false⟩) ∧ ∀ r ∈ d.joins, E.ld r.2.lid = some ⟨n, r.1, r.2, true⟩
theorem tyOk : tyTab.all (fun q => tyOkB Go.Proofs.Tryz.prog q.2 q.1) = true := by kernel_rfl
theorem fa4 : FaX fd4 4 :=
  ⟨FdOk.of Go.Proofs.Tryz.func4 (by kernel_rfl), by kernel_rfl, fun r hr => absurd hr (by simp [fd4]), fun r hr => absurd hr (by simp [fd4])⟩
theorem fa54 : FaX fd54 54 :=
  ⟨FdOk.of Go.Proofs.Tryz.func54 (by kernel_rfl), by kernel_rfl, fun r hr => by
    simp only [fd54, List.mem_cons, List.not_mem_nil, or_false] at hr
    subst hr; kernel_rfl, fun r hr => absurd hr (by simp [fd54])⟩
theorem fa55 : FaX fd55 55 :=
  ⟨FdOk.of Go.Proofs.Tryz.func55 (by kernel_rfl), by kernel_rfl, fun r hr => absurd hr (by simp [fd55]), fun r hr => absurd hr (by simp [fd55])⟩
theorem fa58 : FaX fd58 58 :=
  ⟨FdOk.of Go.Proofs.Tryz.func58 (by kernel_rfl), by kernel_rfl, fun r hr => absurd hr (by simp [fd58]), fun r hr => absurd hr (by simp [fd58])⟩
theorem fa60 : FaX fd60 60 :=
  ⟨FdOk.of Go.Proofs.Tryz.func60 (by kernel_rfl), by kernel_rfl, fun r hr => by
    simp only [fd60, List.mem_cons, List.not_mem_nil, or_false] at hr
    rcases hr with rfl | rfl | rfl | rfl <;> kernel_rfl, fun r hr => absurd hr (by simp [fd60])⟩
theorem fa61 : FaX fd61 61 :=
  ⟨FdOk.of Go.Proofs.Tryz.func61 (by kernel_rfl), by kernel_rfl, fun r hr => by
    simp only [fd61, List.mem_cons, List.not_mem_nil, or_false] at hr
    rcases hr with rfl | rfl <;> kernel_rfl, fun r hr => absurd hr (by simp [fd61])⟩
theorem fa57 : FaX fd57 57 :=
  ⟨FdOk.of Go.Proofs.Tryz.func57 (by kernel_rfl), by kernel_rfl, fun r hr => by
    simp only [fd57, List.mem_cons, List.not_mem_nil, or_false] at hr
    rcases hr with rfl | rfl <;> kernel_rfl, fun r hr => absurd hr (by simp [fd57])⟩
theorem fa71 : FaX fd71 71 :=
  ⟨FdOk.of Go.Proofs.Tryz.func71 (by kernel_rfl), by kernel_rfl, fun r hr => absurd hr (by simp [fd71]), fun r hr => absurd hr (by simp [fd71])⟩
theorem fa32 : FaX fd32 32 :=
  ⟨FdOk.of Go.Proofs.Tryz.func32 (by kernel_rfl), by kernel_rfl, fun r hr => absurd hr (by simp [fd32]), fun r hr => absurd hr (by simp [fd32])⟩
theorem fa5 : FaX fd5 5 :=
  ⟨FdOk.of Go.Proofs.Tryz.func5 (by kernel_rfl), by kernel_rfl, fun r hr => absurd hr (by simp [fd5]), fun r hr => absurd hr (by simp [fd5])⟩
theorem fa50 : FaX fd50 50 :=
  ⟨FdOk.of Go.Proofs.Tryz.func50 (by kernel_rfl), by kernel_rfl, fun r hr => absurd hr (by simp [fd50]), fun r hr => absurd hr (by simp [fd50])⟩
theorem fa44 : FaX fd44 44 :=
  ⟨FdOk.of Go.Proofs.Tryz.func44 (by kernel_rfl), by kernel_rfl, fun r hr => absurd hr (by simp [fd44]), fun r hr => absurd hr (by simp [fd44])⟩
theorem fa78 : FaX fd78 78 :=
  ⟨FdOk.of Go.Proofs.Tryz.func78 (by kernel_rfl), by kernel_rfl, fun r hr => by
    simp only [fd78, List.mem_cons, List.not_mem_nil, or_false] at hr
    subst hr; kernel_rfl, fun r hr => absurd hr (by simp [fd78])⟩
theorem fa49 : FaX fd49 49 :=
  ⟨FdOk.of Go.Proofs.Tryz.func49 (by kernel_rfl), by kernel_rfl, fun r hr => absurd hr (by simp [fd49]), fun r hr => absurd hr (by simp [fd49])⟩
theorem fa37 : FaX fd37 37 :=
  ⟨FdOk.of Go.Proofs.Tryz.func37 (by kernel_rfl), by kernel_rfl, fun r hr => by
    simp only [fd37, List.mem_cons, List.not_mem_nil, or_false] at hr
    subst hr; kernel_rfl, fun r hr => absurd hr (by simp [fd37])⟩
theorem fa39 : FaX fd39 39 :=
  ⟨FdOk.of Go.Proofs.Tryz.func39 (by kernel_rfl), by kernel_rfl, fun r hr => by
    simp only [fd39, List.mem_cons, List.not_mem_nil, or_false] at hr
    rcases hr with rfl | rfl <;> kernel_rfl, fun r hr => absurd hr (by simp [fd39])⟩
theorem fa36 : FaX fd36 36 :=
  ⟨FdOk.of Go.Proofs.Tryz.func36 (by kernel_rfl), by kernel_rfl, fun r hr => by
    simp only [fd36, List.mem_cons, List.not_mem_nil, or_false] at hr
    subst hr; kernel_rfl, fun r hr => absurd hr (by simp [fd36])⟩
theorem fa38 : FaX fd38 38 :=
  ⟨FdOk.of Go.Proofs.Tryz.func38 (by kernel_rfl), by kernel_rfl, fun r hr => by
    simp only [fd38, List.mem_cons, List.not_mem_nil, or_false] at hr
    rcases hr with rfl | rfl | rfl | rfl <;> kernel_rfl, fun r hr => absurd hr (by simp [fd38])⟩
theorem fa10 : FaX fd10 10 :=
  ⟨FdOk.of Go.Proofs.Tryz.func10 (by kernel_rfl), by kernel_rfl, fun r hr => absurd hr (by simp [fd10]), fun r hr => absurd hr (by simp [fd10])⟩
theorem fa33 : FaX fd33 33 :=
  ⟨FdOk.of Go.Proofs.Tryz.func33 (by kernel_rfl), by kernel_rfl, fun r hr => by
    simp only [fd33, List.mem_cons, List.not_mem_nil, or_false] at hr
    rcases hr with rfl | rfl <;> kernel_rfl, fun r hr => absurd hr (by simp [fd33])⟩
theorem fa6 : FaX fd6 6 :=
  ⟨FdOk.of Go.Proofs.Tryz.func6 (by kernel_rfl), by kernel_rfl, fun r hr => absurd hr (by simp [fd6]), fun r hr => absurd hr (by simp [fd6])⟩
theorem fa59 : FaX fd59 59 :=
  ⟨FdOk.of Go.Proofs.Tryz.func59 (by kernel_rfl), by kernel_rfl, fun r hr => absurd hr (by simp [fd59]), fun r hr => absurd hr (by simp [fd59])⟩
theorem fa74 : FaX fd74 74 :=
  ⟨FdOk.of Go.Proofs.Tryz.func74 (by kernel_rfl), by kernel_rfl, fun r hr => by
    simp only [fd74, List.mem_cons, List.not_mem_nil, or_false] at hr
    rcases hr with rfl | rfl | rfl <;> kernel_rfl, fun r hr => absurd hr (by simp [fd74])⟩
theorem fa45 : FaX fd45 45 :=
  ⟨FdOk.of Go.Proofs.Tryz.func45 (by kernel_rfl), by kernel_rfl, fun r hr => absurd hr (by simp [fd45]), fun r hr => absurd hr (by simp [fd45])⟩
theorem fa34 : FaX fd34 34 :=
  ⟨FdOk.of Go.Proofs.Tryz.func34 (by kernel_rfl), by kernel_rfl, fun r hr => absurd hr (by simp [fd34]), fun r hr => absurd hr (by simp [fd34])⟩
theorem fa35 : FaX fd35 35 :=
  ⟨FdOk.of Go.Proofs.Tryz.func35 (by kernel_rfl), by kernel_rfl, fun r hr => by
    simp only [fd35, List.mem_cons, List.not_mem_nil, or_false] at hr
    rcases hr with rfl | rfl <;> kernel_rfl, fun r hr => absurd hr (by simp [fd35])⟩
theorem fa7 : FaX fd7 7 :=
  ⟨FdOk.of Go.Proofs.Tryz.func7 (by kernel_rfl), by kernel_rfl, fun r hr => absurd hr (by simp [fd7]), fun r hr => absurd hr (by simp [fd7])⟩
theorem fa8 : FaX fd8 8 :=
  ⟨FdOk.of Go.Proofs.Tryz.func8 (by kernel_rfl), by kernel_rfl, fun r hr => by
    simp only [fd8, List.mem_cons, List.not_mem_nil, or_false] at hr
    rcases hr with rfl | rfl <;> kernel_rfl, fun r hr => absurd hr (by simp [fd8])⟩
theorem fa43 : FaX fd43 43 :=
  ⟨FdOk.of Go.Proofs.Tryz.func43 (by kernel_rfl), by kernel_rfl, fun r hr => by
    simp only [fd43, List.mem_cons, List.not_mem_nil, or_false] at hr
    subst hr; kernel_rfl, fun r hr => absurd hr (by simp [fd43])⟩
theorem fa42 : FaX fd42 42 :=
  ⟨FdOk.of Go.Proofs.Tryz.func42 (by kernel_rfl), by kernel_rfl, fun r hr => by
    simp only [fd42, List.mem_cons, List.not_mem_nil, or_false] at hr
    subst hr; kernel_rfl, fun r hr => absurd hr (by simp [fd42])⟩
theorem fa41 : FaX fd41 41 :=
  ⟨FdOk.of Go.Proofs.Tryz.func41 (by kernel_rfl), by kernel_rfl, fun r hr => by
    simp only [fd41, List.mem_cons, List.not_mem_nil, or_false] at hr
    subst hr; kernel_rfl, fun r hr => absurd hr (by simp [fd41])⟩
theorem fa40 : FaX fd40 40 :=
  ⟨FdOk.of Go.Proofs.Tryz.func40 (by kernel_rfl), by kernel_rfl, fun r hr => absurd hr (by simp [fd40]), fun r hr => absurd hr (by simp [fd40])⟩
theorem fa9 : FaX fd9 9 :=
  ⟨FdOk.of Go.Proofs.Tryz.func9 (by kernel_rfl), by kernel_rfl, fun r hr => absurd hr (by simp [fd9]), fun r hr => absurd hr (by simp [fd9])⟩
theorem fa11 : FaX fd11 11 :=
  ⟨FdOk.of Go.Proofs.Tryz.func11 (by kernel_rfl), by kernel_rfl, fun r hr => absurd hr (by simp [fd11]), fun r hr => absurd hr (by simp [fd11])⟩
theorem fa87 : FaX fd87 87 :=
  ⟨FdOk.of Go.Proofs.Tryz.func87 (by kernel_rfl), by kernel_rfl, fun r hr => by
    simp only [fd87, List.mem_cons, List.not_mem_nil, or_false] at hr
    subst hr; kernel_rfl, fun r hr => absurd hr (by simp [fd87])⟩
theorem fa76 : FaX fd76 76 :=
  ⟨FdOk.of Go.Proofs.Tryz.func76 (by kernel_rfl), by kernel_rfl, fun r hr => absurd hr (by simp [fd76]), fun r hr => absurd hr (by simp [fd76])⟩
theorem fa77 : FaX fd77 77 :=
  ⟨FdOk.of Go.Proofs.Tryz.func77 (by kernel_rfl), by kernel_rfl, fun r hr => by
    simp only [fd77, List.mem_cons, List.not_mem_nil, or_false] at hr
    subst hr; kernel_rfl, fun r hr => absurd hr (by simp [fd77])⟩
theorem fa86 : FaX fd86 86 :=
  ⟨FdOk.of Go.Proofs.Tryz.func86 (by kernel_rfl), by kernel_rfl, fun r hr => by
    simp only [fd86, List.mem_cons, List.not_mem_nil, or_false] at hr
    subst hr; kernel_rfl, fun r hr => absurd hr (by simp [fd86])⟩
theorem fa75 : FaX fd75 75 :=
  ⟨FdOk.of Go.Proofs.Tryz.func75 (by kernel_rfl), by kernel_rfl, fun r hr => absurd hr (by simp [fd75]), fun r hr => absurd hr (by simp [fd75])⟩
theorem fa46 : FaX fd46 46 :=
  ⟨FdOk.of Go.Proofs.Tryz.func46 (by kernel_rfl), by kernel_rfl, fun r hr => absurd hr (by simp [fd46]), fun r hr => absurd hr (by simp [fd46])⟩
theorem fa12 : FaX fd12 12 :=
  ⟨FdOk.of Go.Proofs.Tryz.func12 (by kernel_rfl), by kernel_rfl, fun r hr => absurd hr (by simp [fd12]), fun r hr => absurd hr (by simp [fd12])⟩
theorem fa47 : FaX fd47 47 :=
  ⟨FdOk.of Go.Proofs.Tryz.func47 (by kernel_rfl), by kernel_rfl, fun r hr => by
    simp only [fd47, List.mem_cons, List.not_mem_nil, or_false] at hr
    rcases hr with rfl | rfl <;> kernel_rfl, fun r hr => absurd hr (by simp [fd47])⟩
theorem fa13 : FaX fd13 13 :=
  ⟨FdOk.of Go.Proofs.Tryz.func13 (by kernel_rfl), by kernel_rfl, fun r hr => absurd hr (by simp [fd13]), fun r hr => absurd hr (by simp [fd13])⟩
theorem fa48 : FaX fd48 48 :=
  ⟨FdOk.of Go.Proofs.Tryz.func48 (by kernel_rfl), by kernel_rfl, fun r hr => by
    simp only [fd48, List.mem_cons, List.not_mem_nil, or_false] at hr
    subst hr; kernel_rfl, fun r hr => absurd hr (by simp [fd48])⟩
theorem fa14 : FaX fd14 14 :=
  ⟨FdOk.of Go.Proofs.Tryz.func14 (by kernel_rfl), by kernel_rfl, fun r hr => absurd hr (by simp [fd14]), fun r hr => absurd hr (by simp [fd14])⟩
theorem fa15 : FaX fd15 15 :=
  ⟨FdOk.of Go.Proofs.Tryz.func15 (by kernel_rfl), by kernel_rfl, fun r hr => absurd hr (by simp [fd15]), fun r hr => absurd hr (by simp [fd15])⟩
theorem fa16 : FaX fd16 16 :=
  ⟨FdOk.of Go.Proofs.Tryz.func16 (by kernel_rfl), by kernel_rfl, fun r hr => by
    simp only [fd16, List.mem_cons, List.not_mem_nil, or_false] at hr
    rcases hr with rfl | rfl <;> kernel_rfl, fun r hr => absurd hr (by simp [fd16])⟩
theorem fa69 : FaX fd69 69 :=
  ⟨FdOk.of Go.Proofs.Tryz.func69 (by kernel_rfl), by kernel_rfl, fun r hr => by
    simp only [fd69, List.mem_cons, List.not_mem_nil, or_false] at hr
    rcases hr with rfl | rfl <;> kernel_rfl, fun r hr => absurd hr (by simp [fd69])⟩
theorem fa51 : FaX fd51 51 :=
  ⟨FdOk.of Go.Proofs.Tryz.func51 (by kernel_rfl), by kernel_rfl, fun r hr => by
    simp only [fd51, List.mem_cons, List.not_mem_nil, or_false] at hr
    rcases hr with rfl | rfl <;> kernel_rfl, fun r hr => absurd hr (by simp [fd51])⟩
theorem fa17 : FaX fd17 17 :=
  ⟨FdOk.of Go.Proofs.Tryz.func17 (by kernel_rfl), by kernel_rfl, fun r hr => absurd hr (by simp [fd17]), fun r hr => absurd hr (by simp [fd17])⟩
theorem fa79 : FaX fd79 79 :=
  ⟨FdOk.of Go.Proofs.Tryz.func79 (by kernel_rfl), by kernel_rfl, fun r hr => absurd hr (by simp [fd79]), fun r hr => absurd hr (by simp [fd79])⟩
theorem fa52 : FaX fd52 52 :=
  ⟨FdOk.of Go.Proofs.Tryz.func52 (by kernel_rfl), by kernel_rfl, fun r hr => by
    simp only [fd52, List.mem_cons, List.not_mem_nil, or_false] at hr
    subst hr; kernel_rfl, fun r hr => absurd hr (by simp [fd52])⟩
theorem fa88 : FaX fd88 88 :=
  ⟨FdOk.of Go.Proofs.Tryz.func88 (by kernel_rfl), by kernel_rfl, fun r hr => absurd hr (by simp [fd88]), fun r hr => absurd hr (by simp [fd88])⟩
theorem fa81 : FaX fd81 81 :=
  ⟨FdOk.of Go.Proofs.Tryz.func81 (by kernel_rfl), by kernel_rfl, fun r hr => absurd hr (by simp [fd81]), fun r hr => absurd hr (by simp [fd81])⟩
theorem zSM : FaX fd10000 10000 :=
  ⟨FdOk.of Go.Proofs.Tryz.func80 (by kernel_rfl), by kernel_rfl, fun r hr => by
    simp only [fd10000, List.mem_cons, List.not_mem_nil, or_false] at hr
    subst hr; kernel_rfl, fun r hr => absurd hr (by simp [fd10000])⟩
theorem fa53 : FaX fd53 53 :=
  ⟨FdOk.of Go.Proofs.Tryz.func53 (by kernel_rfl), by kernel_rfl, fun r hr => by
    simp only [fd53, List.mem_cons, List.not_mem_nil, or_false] at hr
    subst hr; kernel_rfl, fun r hr => absurd hr (by simp [fd53])⟩
theorem fa18 : FaX fd18 18 :=
  ⟨FdOk.of Go.Proofs.Tryz.func18 (by kernel_rfl), by kernel_rfl, fun r hr => absurd hr (by simp [fd18]), fun r hr => absurd hr (by simp [fd18])⟩
theorem fa56 : FaX fd56 56 :=
  ⟨FdOk.of Go.Proofs.Tryz.func56 (by kernel_rfl), by kernel_rfl, fun r hr => by
    simp only [fd56, List.mem_cons, List.not_mem_nil, or_false] at hr
    rcases hr with rfl | rfl <;> kernel_rfl, fun r hr => absurd hr (by simp [fd56])⟩
theorem fa19 : FaX fd19 19 :=
  ⟨FdOk.of Go.Proofs.Tryz.func19 (by kernel_rfl), by kernel_rfl, fun r hr => absurd hr (by simp [fd19]), fun r hr => absurd hr (by simp [fd19])⟩
theorem fa20 : FaX fd20 20 :=
  ⟨FdOk.of Go.Proofs.Tryz.func20 (by kernel_rfl), by kernel_rfl, fun r hr => by
    simp only [fd20, List.mem_cons, List.not_mem_nil, or_false] at hr
    rcases hr with rfl | rfl <;> kernel_rfl, fun r hr => absurd hr (by simp [fd20])⟩
theorem fa62 : FaX fd62 62 :=
  ⟨FdOk.of Go.Proofs.Tryz.func62 (by kernel_rfl), by kernel_rfl, fun r hr => absurd hr (by simp [fd62]), fun r hr => absurd hr (by simp [fd62])⟩
theorem fa21 : FaX fd21 21 :=
  ⟨FdOk.of Go.Proofs.Tryz.func21 (by kernel_rfl), by kernel_rfl, fun r hr => absurd hr (by simp [fd21]), fun r hr => absurd hr (by simp [fd21])⟩
theorem fa64 : FaX fd64 64 :=
  ⟨FdOk.of Go.Proofs.Tryz.func64 (by kernel_rfl), by kernel_rfl, fun r hr => absurd hr (by simp [fd64]), fun r hr => absurd hr (by simp [fd64])⟩
theorem zSL : FaX fd10001 10001 :=
  ⟨FdOk.of Go.Proofs.Tryz.func63 (by kernel_rfl), by kernel_rfl, fun r hr => by
    simp only [fd10001, List.mem_cons, List.not_mem_nil, or_false] at hr
    subst hr; kernel_rfl, fun r hr => absurd hr (by simp [fd10001])⟩
theorem fa99 : FaX fd99 99 :=
  ⟨FdOk.of Go.Proofs.Tryz.func99 (by kernel_rfl), by kernel_rfl, fun r hr => absurd hr (by simp [fd99]), fun r hr => absurd hr (by simp [fd99])⟩
theorem fa84 : FaX fd84 84 :=
  ⟨FdOk.of Go.Proofs.Tryz.func84 (by kernel_rfl), by kernel_rfl, fun r hr => absurd hr (by simp [fd84]), fun r hr => absurd hr (by simp [fd84])⟩
theorem fa67 : FaX fd67 67 :=
  ⟨FdOk.of Go.Proofs.Tryz.func67 (by kernel_rfl), by kernel_rfl, fun r hr => by
    simp only [fd67, List.mem_cons, List.not_mem_nil, or_false] at hr
    subst hr; kernel_rfl, fun r hr => absurd hr (by simp [fd67])⟩
theorem fa66 : FaX fd66 66 :=
  ⟨FdOk.of Go.Proofs.Tryz.func66 (by kernel_rfl), by kernel_rfl, fun r hr => absurd hr (by simp [fd66]), fun r hr => absurd hr (by simp [fd66])⟩
theorem zSK : FaX fd10002 10002 :=
  ⟨FdOk.of Go.Proofs.Tryz.func65 (by kernel_rfl), by kernel_rfl, fun r hr => absurd hr (by simp [fd10002]), fun r hr => absurd hr (by simp [fd10002])⟩
theorem fa22 : FaX fd22 22 :=
  ⟨FdOk.of Go.Proofs.Tryz.func22 (by kernel_rfl), by kernel_rfl, fun r hr => absurd hr (by simp [fd22]), fun r hr => absurd hr (by simp [fd22])⟩
theorem fa85 : FaX fd85 85 :=
  ⟨FdOk.of Go.Proofs.Tryz.func85 (by kernel_rfl), by kernel_rfl, fun r hr => by
    simp only [fd85, List.mem_cons, List.not_mem_nil, or_false] at hr
    subst hr; kernel_rfl, fun r hr => absurd hr (by simp [fd85])⟩
theorem fa68 : FaX fd68 68 :=
  ⟨FdOk.of Go.Proofs.Tryz.func68 (by kernel_rfl), by kernel_rfl, fun r hr => by
    simp only [fd68, List.mem_cons, List.not_mem_nil, or_false] at hr
    rcases hr with rfl | rfl <;> kernel_rfl, fun r hr => absurd hr (by simp [fd68])⟩
theorem fa23 : FaX fd23 23 :=
  ⟨FdOk.of Go.Proofs.Tryz.func23 (by kernel_rfl), by kernel_rfl, fun r hr => absurd hr (by simp [fd23]), fun r hr => absurd hr (by simp [fd23])⟩
theorem fa24 : FaX fd24 24 :=
  ⟨FdOk.of Go.Proofs.Tryz.func24 (by kernel_rfl), by kernel_rfl, fun r hr => absurd hr (by simp [fd24]), fun r hr => absurd hr (by simp [fd24])⟩
theorem fa25 : FaX fd25 25 :=
  ⟨FdOk.of Go.Proofs.Tryz.func25 (by kernel_rfl), by kernel_rfl, fun r hr => absurd hr (by simp [fd25]), fun r hr => absurd hr (by simp [fd25])⟩
theorem fa70 : FaX fd70 70 :=
  ⟨FdOk.of Go.Proofs.Tryz.func70 (by kernel_rfl), by kernel_rfl, fun r hr => by
    simp only [fd70, List.mem_cons, List.not_mem_nil, or_false] at hr
    rcases hr with rfl | rfl <;> kernel_rfl, fun r hr => absurd hr (by simp [fd70])⟩
theorem fa26 : FaX fd26 26 :=
  ⟨FdOk.of Go.Proofs.Tryz.func26 (by kernel_rfl), by kernel_rfl, fun r hr => absurd hr (by simp [fd26]), fun r hr => absurd hr (by simp [fd26])⟩
theorem fa27 : FaX fd27 27 :=
  ⟨FdOk.of Go.Proofs.Tryz.func27 (by kernel_rfl), by kernel_rfl, fun r hr => absurd hr (by simp [fd27]), fun r hr => absurd hr (by simp [fd27])⟩
theorem fa28 : FaX fd28 28 :=
  ⟨FdOk.of Go.Proofs.Tryz.func28 (by kernel_rfl), by kernel_rfl, fun r hr => absurd hr (by simp [fd28]), fun r hr => absurd hr (by simp [fd28])⟩
theorem fa29 : FaX fd29 29 :=
  ⟨FdOk.of Go.Proofs.Tryz.func29 (by kernel_rfl), by kernel_rfl, fun r hr => absurd hr (by simp [fd29]), fun r hr => absurd hr (by simp [fd29])⟩
theorem fa72 : FaX fd72 72 :=
  ⟨FdOk.of Go.Proofs.Tryz.func72 (by kernel_rfl), by kernel_rfl, fun r hr => by
    simp only [fd72, List.mem_cons, List.not_mem_nil, or_false] at hr
    subst hr; kernel_rfl, fun r hr => absurd hr (by simp [fd72])⟩
theorem fa30 : FaX fd30 30 :=
  ⟨FdOk.of Go.Proofs.Tryz.func30 (by kernel_rfl), by kernel_rfl, fun r hr => absurd hr (by simp [fd30]), fun r hr => absurd hr (by simp [fd30])⟩
theorem fa73 : FaX fd73 73 :=
  ⟨FdOk.of Go.Proofs.Tryz.func73 (by kernel_rfl), by kernel_rfl, fun r hr => by
    simp only [fd73, List.mem_cons, List.not_mem_nil, or_false] at hr
    subst hr; kernel_rfl, fun r hr => absurd hr (by simp [fd73])⟩
theorem fa31 : FaX fd31 31 :=
  ⟨FdOk.of Go.Proofs.Tryz.func31 (by kernel_rfl), by kernel_rfl, fun r hr => absurd hr (by simp [fd31]), fun r hr => absurd hr (by simp [fd31])⟩
theorem fa3 : FaX fd3 3 :=
  ⟨FdOk.of Go.Proofs.Tryz.func3 (by kernel_rfl), by kernel_rfl, fun r hr => by
    simp only [fd3, List.mem_cons, List.not_mem_nil, or_false] at hr
    rcases hr with rfl | rfl <;> kernel_rfl, fun r hr => by
    simp only [fd3, List.mem_cons, List.not_mem_nil, or_false] at hr
    subst hr; kernel_rfl⟩
theorem fx19 : ∃ fd, E.fd 19 = some fd ∧ ExtOk Go.Proofs.Tryz.prog E fd (.dpb 54 55 57 56 58) :=
  ⟨fd19, by kernel_rfl, zTC (zQg (zJx rfl tyOk zRn) (by kernel_rfl) (by kernel_rfl) (by kernel_rfl) (by kernel_rfl) (by kernel_rfl) (by kernel_rfl) (by kernel_rfl) (by kernel_rfl) fa54.1 fa55.1 fa57.1 fa56.1 fa58.1 rfl rfl rfl rfl rfl rfl rfl rfl rfl rfl rfl rfl rfl rfl rfl rfl rfl rfl rfl rfl) rfl rfl (by kernel_rfl) (by decide) rfl⟩
def lay10002_ren : Go.Shelf.Ren := ⟨fun | 6 => 65 | 15 => 83 | 14 => 82 | 28 => 97 | 29 => 98 | 20 => 89 | 21 => 90 | 22 => 91 | 23 => 92 | 24 => 93 | 25 => 94 | 26 => 95 | 27 => 96 | 46 => 100 | 47 => 101 | 48 => 102 | 49 => 103 | 50 => 104 | 57 => 105 | n => n, fun | 22 => 47 | 24 => 25 | 25 => 88 | 3 => 3 | 39 => 102 | 0 => 0 | 53 => 120 | 55 => 99 | 4 => 4 | 46 => 113 | 45 => 112 | 50 => 117 | 5 => 5 | 9 => 9 | 66 => 123 | 70 => 127 | 76 => 129 | 77 => 130 | n => n, fun | n => n⟩
theorem zQY : Go.Proofs.SlLaysF0.n6 Go.Proofs.Tryz.prog lay10002_ren where
  mixed := by kernel_rfl
  f6 := ⟨ "slices.SortFunc[[]loop.example/g01205/impl.Part,loop.example/g01205/impl.Part]", by decide, Go.Proofs.Tryz.func65.trans (congrArg some (by kernel_rfl))⟩
  f14 := ⟨ "slices.pdqsortCmpFunc[loop.example/g01205/impl.Part]", by decide, Go.Proofs.Tryz.func82.trans (congrArg some (by kernel_rfl))⟩
  f15 := Go.Proofs.Tryz.func83.trans (congrArg some (by kernel_rfl))
  f20 := ⟨ "slices.insertionSortCmpFunc[loop.example/g01205/impl.Part]", by decide, Go.Proofs.Tryz.func89.trans (congrArg some (by kernel_rfl))⟩
  f21 := ⟨ "slices.heapSortCmpFunc[loop.example/g01205/impl.Part]", by decide, Go.Proofs.Tryz.func90.trans (congrArg some (by kernel_rfl))⟩
  f22 := ⟨ "slices.breakPatternsCmpFunc[loop.example/g01205/impl.Part]", by decide, Go.Proofs.Tryz.func91.trans (congrArg some (by kernel_rfl))⟩
  f23 := ⟨ "slices.choosePivotCmpFunc[loop.example/g01205/impl.Part]", by decide, Go.Proofs.Tryz.func92.trans (congrArg some (by kernel_rfl))⟩
  f24 := ⟨ "slices.reverseRangeCmpFunc[loop.example/g01205/impl.Part]", by decide, Go.Proofs.Tryz.func93.trans (congrArg some (by kernel_rfl))⟩
  f25 := ⟨ "slices.partialInsertionSortCmpFunc[loop.example/g01205/impl.Part]", by decide, Go.Proofs.Tryz.func94.trans (congrArg some (by kernel_rfl))⟩
  f26 := ⟨ "slices.partitionEqualCmpFunc[loop.example/g01205/impl.Part]", by decide, Go.Proofs.Tryz.func95.trans (congrArg some (by kernel_rfl))⟩
  f27 := ⟨ "slices.partitionCmpFunc[loop.example/g01205/impl.Part]", by decide, Go.Proofs.Tryz.func96.trans (congrArg some (by kernel_rfl))⟩
  f28 := Go.Proofs.Tryz.func97.trans (congrArg some (by kernel_rfl))
  f29 := Go.Proofs.Tryz.func98.trans (congrArg some (by kernel_rfl))
  f46 := ⟨ "slices.siftDownCmpFunc[loop.example/g01205/impl.Part]", by decide, Go.Proofs.Tryz.func100.trans (congrArg some (by kernel_rfl))⟩
  f47 := Go.Proofs.Tryz.func101.trans (congrArg some (by kernel_rfl))
  f48 := Go.Proofs.Tryz.func102.trans (congrArg some (by kernel_rfl))
  f49 := ⟨ "slices.medianAdjacentCmpFunc[loop.example/g01205/impl.Part]", by decide, Go.Proofs.Tryz.func103.trans (congrArg some (by kernel_rfl))⟩
  f50 := ⟨ "slices.medianCmpFunc[loop.example/g01205/impl.Part]", by decide, Go.Proofs.Tryz.func104.trans (congrArg some (by kernel_rfl))⟩
  f57 := ⟨ "slices.order2CmpFunc[loop.example/g01205/impl.Part]", by decide, Go.Proofs.Tryz.func105.trans (congrArg some (by kernel_rfl))⟩
  t0 := Go.Proofs.Tryz.underlying0
  a0 := Go.Proofs.Tryz.isAgg0
  z0 := Go.Proofs.Tryz.sizeOf0
  v0 := Go.Proofs.Tryz.zeroValue0
  t3 := Go.Proofs.Tryz.underlying3
  a3 := Go.Proofs.Tryz.isAgg3
  z3 := Go.Proofs.Tryz.sizeOf3
  v3 := Go.Proofs.Tryz.zeroValue3
  t4 := Go.Proofs.Tryz.underlying4
  a4 := Go.Proofs.Tryz.isAgg4
  z4 := Go.Proofs.Tryz.sizeOf4
  v4 := Go.Proofs.Tryz.zeroValue4
  t5 := Go.Proofs.Tryz.underlying5
  a5 := Go.Proofs.Tryz.isAgg5
  z5 := Go.Proofs.Tryz.sizeOf5
  v5 := Go.Proofs.Tryz.zeroValue5
  t9 := Go.Proofs.Tryz.underlying9
  a9 := Go.Proofs.Tryz.isAgg9
  z9 := Go.Proofs.Tryz.sizeOf9
  v9 := Go.Proofs.Tryz.zeroValue9
  t22 := Go.Proofs.Tryz.underlying47
  a22 := Go.Proofs.Tryz.isAgg47
  z22 := Go.Proofs.Tryz.sizeOf47
  v22 := Go.Proofs.Tryz.zeroValue47
  t25 := Go.Proofs.Tryz.underlying88
  a25 := Go.Proofs.Tryz.isAgg88
  z25 := Go.Proofs.Tryz.sizeOf88
  v25 := Go.Proofs.Tryz.zeroValue88
  t39 := Go.Proofs.Tryz.underlying102
  a39 := Go.Proofs.Tryz.isAgg102
  z39 := Go.Proofs.Tryz.sizeOf102
  v39 := Go.Proofs.Tryz.zeroValue102
  t45 := Go.Proofs.Tryz.underlying112
  a45 := Go.Proofs.Tryz.isAgg112
  z45 := Go.Proofs.Tryz.sizeOf112
  v45 := Go.Proofs.Tryz.zeroValue112
  t46 := Go.Proofs.Tryz.underlying113
  a46 := Go.Proofs.Tryz.isAgg113
  z46 := Go.Proofs.Tryz.sizeOf113
  v46 := Go.Proofs.Tryz.zeroValue113
  t50 := Go.Proofs.Tryz.underlying117
  a50 := Go.Proofs.Tryz.isAgg117
  z50 := Go.Proofs.Tryz.sizeOf117
  v50 := Go.Proofs.Tryz.zeroValue117
  t53 := Go.Proofs.Tryz.underlying120
  a53 := Go.Proofs.Tryz.isAgg120
  z53 := Go.Proofs.Tryz.sizeOf120
  v53 := Go.Proofs.Tryz.zeroValue120
  t55 := Go.Proofs.Tryz.underlying99
  a55 := Go.Proofs.Tryz.isAgg99
  z55 := Go.Proofs.Tryz.sizeOf99
  v55 := Go.Proofs.Tryz.zeroValue99
  t66 := Go.Proofs.Tryz.underlying123
  a66 := Go.Proofs.Tryz.isAgg123
  z66 := Go.Proofs.Tryz.sizeOf123
  v66 := Go.Proofs.Tryz.zeroValue123
  t70 := Go.Proofs.Tryz.underlying127
  a70 := Go.Proofs.Tryz.isAgg127
  z70 := Go.Proofs.Tryz.sizeOf127
  v70 := Go.Proofs.Tryz.zeroValue127
  t76 := Go.Proofs.Tryz.underlying129
  a76 := Go.Proofs.Tryz.isAgg129
  z76 := Go.Proofs.Tryz.sizeOf129
  v76 := Go.Proofs.Tryz.zeroValue129
  t77 := Go.Proofs.Tryz.underlying130
  a77 := Go.Proofs.Tryz.isAgg130
  z77 := Go.Proofs.Tryz.sizeOf130
  v77 := Go.Proofs.Tryz.zeroValue130
theorem zSI : ∃ fd, E.fd 10002 = some fd ∧ ExtOk Go.Proofs.Tryz.prog E fd (.sort 66 (.arr .u8 8)) :=
  ⟨fd10002, by kernel_rfl, zRq (T := 25) zQY ((zJx rfl tyOk zRn).ty _ _ (by kernel_rfl)) rfl Go.Proofs.Tryz.isAgg25 Go.Proofs.Tryz.sizeOf25 rfl (.inl rfl) rfl (by kernel_rfl) (by kernel_rfl) fa66.1 rfl rfl⟩
theorem envOk : EnvOk Go.Proofs.Tryz.prog E := EnvOk.of (zJx rfl tyOk zRn) (by kernel_rfl) rfl (by
  simp only [fdTab, List.forall_mem_cons]
  exact ⟨fa4, fa54, fa55, fa58, fa60, fa61, fa57, fa71, fa32, fa5, fa50, fa44, fa78, fa49, fa37, fa39, fa36, fa38, fa10, fa33, fa6, fa59, fa74, fa45, fa34, fa35, fa7, fa8, fa43, fa42, fa41, fa40, fa9, fa11, fa87, fa76, fa77, fa86, fa75, fa46, fa12, fa47, fa13, fa48, fa14, fa15, fa16, fa69, fa51, fa17, fa79, fa52, fa88, fa81, zSM, fa53, fa18, fa56, fa19, fa20, fa62, fa21, fa64, zSL, fa99, fa84, fa67, fa66, zSK, fa22, fa85, fa68, fa23, fa24, fa25, fa70, fa26, fa27, fa28, fa29, fa72, fa30, fa73, fa31, fa3, fun q hq => absurd hq (by simp)⟩) rfl (by
  simp only [extTab, List.forall_mem_cons]
  exact ⟨fx19, zSI, fun q hq => absurd hq (by simp)⟩)
end Go.Ev.YtknhngnhjdpedaaGreat
