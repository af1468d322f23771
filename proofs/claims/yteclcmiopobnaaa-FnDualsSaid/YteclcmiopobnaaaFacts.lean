/- The evaluator's tables are the program's. -/
import Derived.KernelRfl
import Derived.Test.YteclcmiopobnaaaEnv
import Derived.Test.YteclcmiopobnaaaV3
set_option linter.unusedVariables false
namespace Go.Ev.Yteclcmiopobnaaa
open Go.Ev
theorem strOk : E.str.all (isStrB Go.Proofs.Try.prog) = true := by kernel_rfl
def FaX (d : FD) (n : Nat) : Prop := FdOk Go.Proofs.Try.prog d ∧ E.ld n = none ∧ (∀ r ∈ d.loops, E.ld r.2.lid = some ⟨n, r.1, r.2, false⟩) ∧ ∀ r ∈ d.joins, E.ld r.2.lid = some ⟨n, r.1, r.2, true⟩
theorem tyOk : tyTab.all (fun q => tyOkB Go.Proofs.Try.prog q.2 q.1) = true := by kernel_rfl
theorem fa6 : FaX fd6 6 :=
  ⟨FdOk.of Go.Proofs.Try.func6 (by kernel_rfl), by kernel_rfl, fun r hr => absurd hr (by simp [fd6]), fun r hr => absurd hr (by simp [fd6])⟩
theorem fa55 : FaX fd55 55 :=
  ⟨FdOk.of Go.Proofs.Try.func55 (by kernel_rfl), by kernel_rfl, fun r hr => by
    simp only [fd55, List.mem_cons, List.not_mem_nil, or_false] at hr
    subst hr; kernel_rfl, fun r hr => absurd hr (by simp [fd55])⟩
theorem fa60 : FaX fd60 60 :=
  ⟨FdOk.of Go.Proofs.Try.func60 (by kernel_rfl), by kernel_rfl, fun r hr => absurd hr (by simp [fd60]), fun r hr => absurd hr (by simp [fd60])⟩
theorem fa61 : FaX fd61 61 :=
  ⟨FdOk.of Go.Proofs.Try.func61 (by kernel_rfl), by kernel_rfl, fun r hr => absurd hr (by simp [fd61]), fun r hr => absurd hr (by simp [fd61])⟩
theorem fa82 : FaX fd82 82 :=
  ⟨FdOk.of Go.Proofs.Try.func82 (by kernel_rfl), by kernel_rfl, fun r hr => by
    simp only [fd82, List.mem_cons, List.not_mem_nil, or_false] at hr
    subst hr; kernel_rfl, fun r hr => absurd hr (by simp [fd82])⟩
theorem fa69 : FaX fd69 69 :=
  ⟨FdOk.of Go.Proofs.Try.func69 (by kernel_rfl), by kernel_rfl, fun r hr => absurd hr (by simp [fd69]), fun r hr => absurd hr (by simp [fd69])⟩
theorem fa87 : FaX fd87 87 :=
  ⟨FdOk.of Go.Proofs.Try.func87 (by kernel_rfl), by kernel_rfl, fun r hr => absurd hr (by simp [fd87]), fun r hr => absurd hr (by simp [fd87])⟩
theorem fa111 : FaX fd111 111 :=
  ⟨FdOk.of Go.Proofs.Try.func111 (by kernel_rfl), by kernel_rfl, fun r hr => absurd hr (by simp [fd111]), fun r hr => absurd hr (by simp [fd111])⟩
theorem fa54 : FaX fd54 54 :=
  ⟨FdOk.of Go.Proofs.Try.func54 (by kernel_rfl), by kernel_rfl, fun r hr => absurd hr (by simp [fd54]), fun r hr => absurd hr (by simp [fd54])⟩
theorem fa42 : FaX fd42 42 :=
  ⟨FdOk.of Go.Proofs.Try.func42 (by kernel_rfl), by kernel_rfl, fun r hr => absurd hr (by simp [fd42]), fun r hr => absurd hr (by simp [fd42])⟩
theorem fa97 : FaX fd97 97 :=
  ⟨FdOk.of Go.Proofs.Try.func97 (by kernel_rfl), by kernel_rfl, fun r hr => absurd hr (by simp [fd97]), fun r hr => absurd hr (by simp [fd97])⟩
theorem fa96 : FaX fd96 96 :=
  ⟨FdOk.of Go.Proofs.Try.func96 (by kernel_rfl), by kernel_rfl, fun r hr => absurd hr (by simp [fd96]), fun r hr => absurd hr (by simp [fd96])⟩
theorem fa112 : FaX fd112 112 :=
  ⟨FdOk.of Go.Proofs.Try.func112 (by kernel_rfl), by kernel_rfl, fun r hr => absurd hr (by simp [fd112]), fun r hr => absurd hr (by simp [fd112])⟩
theorem fa56 : FaX fd56 56 :=
  ⟨FdOk.of Go.Proofs.Try.func56 (by kernel_rfl), by kernel_rfl, fun r hr => by
    simp only [fd56, List.mem_cons, List.not_mem_nil, or_false] at hr
    subst hr; kernel_rfl, fun r hr => absurd hr (by simp [fd56])⟩
theorem fa91 : FaX fd91 91 :=
  ⟨FdOk.of Go.Proofs.Try.func91 (by kernel_rfl), by kernel_rfl, fun r hr => absurd hr (by simp [fd91]), fun r hr => absurd hr (by simp [fd91])⟩
theorem fa132 : FaX fd132 132 :=
  ⟨FdOk.of Go.Proofs.Try.func132 (by kernel_rfl), by kernel_rfl, fun r hr => by
    simp only [fd132, List.mem_cons, List.not_mem_nil, or_false] at hr
    subst hr; kernel_rfl, fun r hr => absurd hr (by simp [fd132])⟩
theorem fa118 : FaX fd118 118 :=
  ⟨FdOk.of Go.Proofs.Try.func118 (by kernel_rfl), by kernel_rfl, fun r hr => absurd hr (by simp [fd118]), fun r hr => absurd hr (by simp [fd118])⟩
theorem fa99 : FaX fd99 99 :=
  ⟨FdOk.of Go.Proofs.Try.func99 (by kernel_rfl), by kernel_rfl, fun r hr => absurd hr (by simp [fd99]), fun r hr => absurd hr (by simp [fd99])⟩
theorem fa151 : FaX fd151 151 :=
  ⟨FdOk.of Go.Proofs.Try.func151 (by kernel_rfl), by kernel_rfl, fun r hr => by
    simp only [fd151, List.mem_cons, List.not_mem_nil, or_false] at hr
    subst hr; kernel_rfl, fun r hr => absurd hr (by simp [fd151])⟩
theorem fa137 : FaX fd137 137 :=
  ⟨FdOk.of Go.Proofs.Try.func137 (by kernel_rfl), by kernel_rfl, fun r hr => absurd hr (by simp [fd137]), fun r hr => absurd hr (by simp [fd137])⟩
theorem fa95 : FaX fd95 95 :=
  ⟨FdOk.of Go.Proofs.Try.func95 (by kernel_rfl), by kernel_rfl, fun r hr => by
    simp only [fd95, List.mem_cons, List.not_mem_nil, or_false] at hr
    subst hr; kernel_rfl, fun r hr => absurd hr (by simp [fd95])⟩
theorem fa150 : FaX fd150 150 :=
  ⟨FdOk.of Go.Proofs.Try.func150 (by kernel_rfl), by kernel_rfl, fun r hr => by
    simp only [fd150, List.mem_cons, List.not_mem_nil, or_false] at hr
    subst hr; kernel_rfl, fun r hr => absurd hr (by simp [fd150])⟩
theorem fa136 : FaX fd136 136 :=
  ⟨FdOk.of Go.Proofs.Try.func136 (by kernel_rfl), by kernel_rfl, fun r hr => absurd hr (by simp [fd136]), fun r hr => absurd hr (by simp [fd136])⟩
theorem fa101 : FaX fd101 101 :=
  ⟨FdOk.of Go.Proofs.Try.func101 (by kernel_rfl), by kernel_rfl, fun r hr => absurd hr (by simp [fd101]), fun r hr => absurd hr (by simp [fd101])⟩
theorem fa147 : FaX fd147 147 :=
  ⟨FdOk.of Go.Proofs.Try.func147 (by kernel_rfl), by kernel_rfl, fun r hr => by
    simp only [fd147, List.mem_cons, List.not_mem_nil, or_false] at hr
    subst hr; kernel_rfl, fun r hr => absurd hr (by simp [fd147])⟩
theorem fa133 : FaX fd133 133 :=
  ⟨FdOk.of Go.Proofs.Try.func133 (by kernel_rfl), by kernel_rfl, fun r hr => absurd hr (by simp [fd133]), fun r hr => absurd hr (by simp [fd133])⟩
theorem fa134 : FaX fd134 134 :=
  ⟨FdOk.of Go.Proofs.Try.func134 (by kernel_rfl), by kernel_rfl, fun r hr => by
    simp only [fd134, List.mem_cons, List.not_mem_nil, or_false] at hr
    subst hr; kernel_rfl, fun r hr => absurd hr (by simp [fd134])⟩
theorem fa135 : FaX fd135 135 :=
  ⟨FdOk.of Go.Proofs.Try.func135 (by kernel_rfl), by kernel_rfl, fun r hr => by
    simp only [fd135, List.mem_cons, List.not_mem_nil, or_false] at hr
    rcases hr with rfl | rfl <;> kernel_rfl, fun r hr => absurd hr (by simp [fd135])⟩
theorem fa130 : FaX fd130 130 :=
  ⟨FdOk.of Go.Proofs.Try.func130 (by kernel_rfl), by kernel_rfl, fun r hr => by
    simp only [fd130, List.mem_cons, List.not_mem_nil, or_false] at hr
    subst hr; kernel_rfl, fun r hr => absurd hr (by simp [fd130])⟩
theorem fa100 : FaX fd100 100 :=
  ⟨FdOk.of Go.Proofs.Try.func100 (by kernel_rfl), by kernel_rfl, fun r hr => by
    simp only [fd100, List.mem_cons, List.not_mem_nil, or_false] at hr
    rcases hr with rfl | rfl <;> kernel_rfl, fun r hr => absurd hr (by simp [fd100])⟩
theorem fa119 : FaX fd119 119 :=
  ⟨FdOk.of Go.Proofs.Try.func119 (by kernel_rfl), by kernel_rfl, fun r hr => by
    simp only [fd119, List.mem_cons, List.not_mem_nil, or_false] at hr
    rcases hr with rfl | rfl | rfl <;> kernel_rfl, fun r hr => absurd hr (by simp [fd119])⟩
theorem fa148 : FaX fd148 148 :=
  ⟨FdOk.of Go.Proofs.Try.func148 (by kernel_rfl), by kernel_rfl, fun r hr => by
    simp only [fd148, List.mem_cons, List.not_mem_nil, or_false] at hr
    subst hr; kernel_rfl, fun r hr => absurd hr (by simp [fd148])⟩
theorem fa120 : FaX fd120 120 :=
  ⟨FdOk.of Go.Proofs.Try.func120 (by kernel_rfl), by kernel_rfl, fun r hr => by
    simp only [fd120, List.mem_cons, List.not_mem_nil, or_false] at hr
    subst hr; kernel_rfl, fun r hr => absurd hr (by simp [fd120])⟩
theorem fa73 : FaX fd73 73 :=
  ⟨FdOk.of Go.Proofs.Try.func73 (by kernel_rfl), by kernel_rfl, fun r hr => by
    simp only [fd73, List.mem_cons, List.not_mem_nil, or_false] at hr
    subst hr; kernel_rfl, fun r hr => absurd hr (by simp [fd73])⟩
theorem fa43 : FaX fd43 43 :=
  ⟨FdOk.of Go.Proofs.Try.func43 (by kernel_rfl), by kernel_rfl, fun r hr => absurd hr (by simp [fd43]), fun r hr => absurd hr (by simp [fd43])⟩
theorem fa114 : FaX fd114 114 :=
  ⟨FdOk.of Go.Proofs.Try.func114 (by kernel_rfl), by kernel_rfl, fun r hr => absurd hr (by simp [fd114]), fun r hr => absurd hr (by simp [fd114])⟩
theorem fa58 : FaX fd58 58 :=
  ⟨FdOk.of Go.Proofs.Try.func58 (by kernel_rfl), by kernel_rfl, fun r hr => by
    simp only [fd58, List.mem_cons, List.not_mem_nil, or_false] at hr
    subst hr; kernel_rfl, fun r hr => absurd hr (by simp [fd58])⟩
theorem fa160 : FaX fd160 160 :=
  ⟨FdOk.of Go.Proofs.Try.func160 (by kernel_rfl), by kernel_rfl, fun r hr => by
    simp only [fd160, List.mem_cons, List.not_mem_nil, or_false] at hr
    rcases hr with rfl | rfl <;> kernel_rfl, fun r hr => absurd hr (by simp [fd160])⟩
theorem fa149 : FaX fd149 149 :=
  ⟨FdOk.of Go.Proofs.Try.func149 (by kernel_rfl), by kernel_rfl, fun r hr => by
    simp only [fd149, List.mem_cons, List.not_mem_nil, or_false] at hr
    subst hr; kernel_rfl, fun r hr => absurd hr (by simp [fd149])⟩
theorem fa123 : FaX fd123 123 :=
  ⟨FdOk.of Go.Proofs.Try.func123 (by kernel_rfl), by kernel_rfl, fun r hr => absurd hr (by simp [fd123]), fun r hr => absurd hr (by simp [fd123])⟩
theorem fa124 : FaX fd124 124 :=
  ⟨FdOk.of Go.Proofs.Try.func124 (by kernel_rfl), by kernel_rfl, fun r hr => by
    simp only [fd124, List.mem_cons, List.not_mem_nil, or_false] at hr
    subst hr; kernel_rfl, fun r hr => absurd hr (by simp [fd124])⟩
theorem fa109 : FaX fd109 109 :=
  ⟨FdOk.of Go.Proofs.Try.func109 (by kernel_rfl), by kernel_rfl, fun r hr => by
    simp only [fd109, List.mem_cons, List.not_mem_nil, or_false] at hr
    subst hr; kernel_rfl, fun r hr => absurd hr (by simp [fd109])⟩
theorem fa126 : FaX fd126 126 :=
  ⟨FdOk.of Go.Proofs.Try.func126 (by kernel_rfl), by kernel_rfl, fun r hr => by
    simp only [fd126, List.mem_cons, List.not_mem_nil, or_false] at hr
    subst hr; kernel_rfl, fun r hr => absurd hr (by simp [fd126])⟩
theorem fa125 : FaX fd125 125 :=
  ⟨FdOk.of Go.Proofs.Try.func125 (by kernel_rfl), by kernel_rfl, fun r hr => by
    simp only [fd125, List.mem_cons, List.not_mem_nil, or_false] at hr
    subst hr; kernel_rfl, fun r hr => absurd hr (by simp [fd125])⟩
theorem fa144 : FaX fd144 144 :=
  ⟨FdOk.of Go.Proofs.Try.func144 (by kernel_rfl), by kernel_rfl, fun r hr => absurd hr (by simp [fd144]), fun r hr => absurd hr (by simp [fd144])⟩
theorem fa159 : FaX fd159 159 :=
  ⟨FdOk.of Go.Proofs.Try.func159 (by kernel_rfl), by kernel_rfl, fun r hr => by
    simp only [fd159, List.mem_cons, List.not_mem_nil, or_false] at hr
    rcases hr with rfl | rfl | rfl <;> kernel_rfl, fun r hr => absurd hr (by simp [fd159])⟩
theorem fa158 : FaX fd158 158 :=
  ⟨FdOk.of Go.Proofs.Try.func158 (by kernel_rfl), by kernel_rfl, fun r hr => by
    simp only [fd158, List.mem_cons, List.not_mem_nil, or_false] at hr
    rcases hr with rfl | rfl <;> kernel_rfl, fun r hr => absurd hr (by simp [fd158])⟩
theorem fa143 : FaX fd143 143 :=
  ⟨FdOk.of Go.Proofs.Try.func143 (by kernel_rfl), by kernel_rfl, fun r hr => by
    simp only [fd143, List.mem_cons, List.not_mem_nil, or_false] at hr
    rcases hr with rfl | rfl <;> kernel_rfl, fun r hr => absurd hr (by simp [fd143])⟩
theorem fa127 : FaX fd127 127 :=
  ⟨FdOk.of Go.Proofs.Try.func127 (by kernel_rfl), by kernel_rfl, fun r hr => by
    simp only [fd127, List.mem_cons, List.not_mem_nil, or_false] at hr
    rcases hr with rfl | rfl <;> kernel_rfl, fun r hr => absurd hr (by simp [fd127])⟩
theorem fa93 : FaX fd93 93 :=
  ⟨FdOk.of Go.Proofs.Try.func93 (by kernel_rfl), by kernel_rfl, fun r hr => by
    simp only [fd93, List.mem_cons, List.not_mem_nil, or_false] at hr
    rcases hr with rfl | rfl <;> kernel_rfl, fun r hr => absurd hr (by simp [fd93])⟩
theorem fa44 : FaX fd44 44 :=
  ⟨FdOk.of Go.Proofs.Try.func44 (by kernel_rfl), by kernel_rfl, fun r hr => absurd hr (by simp [fd44]), fun r hr => absurd hr (by simp [fd44])⟩
theorem fa45 : FaX fd45 45 :=
  ⟨FdOk.of Go.Proofs.Try.func45 (by kernel_rfl), by kernel_rfl, fun r hr => by
    simp only [fd45, List.mem_cons, List.not_mem_nil, or_false] at hr
    subst hr; kernel_rfl, fun r hr => absurd hr (by simp [fd45])⟩
theorem fa131 : FaX fd131 131 :=
  ⟨FdOk.of Go.Proofs.Try.func131 (by kernel_rfl), by kernel_rfl, fun r hr => by
    simp only [fd131, List.mem_cons, List.not_mem_nil, or_false] at hr
    rcases hr with rfl | rfl | rfl | rfl <;> kernel_rfl, fun r hr => absurd hr (by simp [fd131])⟩
theorem fa98 : FaX fd98 98 :=
  ⟨FdOk.of Go.Proofs.Try.func98 (by kernel_rfl), by kernel_rfl, fun r hr => absurd hr (by simp [fd98]), fun r hr => absurd hr (by simp [fd98])⟩
theorem fa47 : FaX fd47 47 :=
  ⟨FdOk.of Go.Proofs.Try.func47 (by kernel_rfl), by kernel_rfl, fun r hr => by
    simp only [fd47, List.mem_cons, List.not_mem_nil, or_false] at hr
    subst hr; kernel_rfl, fun r hr => absurd hr (by simp [fd47])⟩
theorem fa128 : FaX fd128 128 :=
  ⟨FdOk.of Go.Proofs.Try.func128 (by kernel_rfl), by kernel_rfl, fun r hr => by
    simp only [fd128, List.mem_cons, List.not_mem_nil, or_false] at hr
    rcases hr with rfl | rfl <;> kernel_rfl, fun r hr => absurd hr (by simp [fd128])⟩
theorem fa129 : FaX fd129 129 :=
  ⟨FdOk.of Go.Proofs.Try.func129 (by kernel_rfl), by kernel_rfl, fun r hr => by
    simp only [fd129, List.mem_cons, List.not_mem_nil, or_false] at hr
    rcases hr with rfl | rfl <;> kernel_rfl, fun r hr => absurd hr (by simp [fd129])⟩
theorem fa94 : FaX fd94 94 :=
  ⟨FdOk.of Go.Proofs.Try.func94 (by kernel_rfl), by kernel_rfl, fun r hr => by
    simp only [fd94, List.mem_cons, List.not_mem_nil, or_false] at hr
    rcases hr with rfl | rfl <;> kernel_rfl, fun r hr => absurd hr (by simp [fd94])⟩
theorem fa89 : FaX fd89 89 :=
  ⟨FdOk.of Go.Proofs.Try.func89 (by kernel_rfl), by kernel_rfl, fun r hr => by
    simp only [fd89, List.mem_cons, List.not_mem_nil, or_false] at hr
    subst hr; kernel_rfl, fun r hr => absurd hr (by simp [fd89])⟩
theorem fa90 : FaX fd90 90 :=
  ⟨FdOk.of Go.Proofs.Try.func90 (by kernel_rfl), by kernel_rfl, fun r hr => absurd hr (by simp [fd90]), fun r hr => absurd hr (by simp [fd90])⟩
theorem fa10000 : FaX fd10000 10000 :=
  ⟨FdOk.of Go.Proofs.Try.func88 (by kernel_rfl), by kernel_rfl, fun r hr => by
    simp only [fd10000, List.mem_cons, List.not_mem_nil, or_false] at hr
    subst hr; kernel_rfl, fun r hr => absurd hr (by simp [fd10000])⟩
theorem fa81 : FaX fd81 81 :=
  ⟨FdOk.of Go.Proofs.Try.func81 (by kernel_rfl), by kernel_rfl, fun r hr => absurd hr (by simp [fd81]), fun r hr => absurd hr (by simp [fd81])⟩
theorem fa46 : FaX fd46 46 :=
  ⟨FdOk.of Go.Proofs.Try.func46 (by kernel_rfl), by kernel_rfl, fun r hr => by
    simp only [fd46, List.mem_cons, List.not_mem_nil, or_false] at hr
    rcases hr with rfl | rfl <;> kernel_rfl, fun r hr => absurd hr (by simp [fd46])⟩
theorem fa154 : FaX fd154 154 :=
  ⟨FdOk.of Go.Proofs.Try.func154 (by kernel_rfl), by kernel_rfl, fun r hr => by
    simp only [fd154, List.mem_cons, List.not_mem_nil, or_false] at hr
    subst hr; kernel_rfl, fun r hr => absurd hr (by simp [fd154])⟩
theorem fa153 : FaX fd153 153 :=
  ⟨FdOk.of Go.Proofs.Try.func153 (by kernel_rfl), by kernel_rfl, fun r hr => absurd hr (by simp [fd153]), fun r hr => absurd hr (by simp [fd153])⟩
theorem fa161 : FaX fd161 161 :=
  ⟨FdOk.of Go.Proofs.Try.func161 (by kernel_rfl), by kernel_rfl, fun r hr => by
    simp only [fd161, List.mem_cons, List.not_mem_nil, or_false] at hr
    rcases hr with rfl | rfl <;> kernel_rfl, fun r hr => absurd hr (by simp [fd161])⟩
theorem fa152 : FaX fd152 152 :=
  ⟨FdOk.of Go.Proofs.Try.func152 (by kernel_rfl), by kernel_rfl, fun r hr => by
    simp only [fd152, List.mem_cons, List.not_mem_nil, or_false] at hr
    rcases hr with rfl | rfl <;> kernel_rfl, fun r hr => absurd hr (by simp [fd152])⟩
theorem fa139 : FaX fd139 139 :=
  ⟨FdOk.of Go.Proofs.Try.func139 (by kernel_rfl), by kernel_rfl, fun r hr => by
    simp only [fd139, List.mem_cons, List.not_mem_nil, or_false] at hr
    rcases hr with rfl | rfl | rfl <;> kernel_rfl, fun r hr => absurd hr (by simp [fd139])⟩
theorem fa162 : FaX fd162 162 :=
  ⟨FdOk.of Go.Proofs.Try.func162 (by kernel_rfl), by kernel_rfl, fun r hr => absurd hr (by simp [fd162]), fun r hr => absurd hr (by simp [fd162])⟩
theorem fa155 : FaX fd155 155 :=
  ⟨FdOk.of Go.Proofs.Try.func155 (by kernel_rfl), by kernel_rfl, fun r hr => by
    simp only [fd155, List.mem_cons, List.not_mem_nil, or_false] at hr
    subst hr; kernel_rfl, fun r hr => absurd hr (by simp [fd155])⟩
theorem fa156 : FaX fd156 156 :=
  ⟨FdOk.of Go.Proofs.Try.func156 (by kernel_rfl), by kernel_rfl, fun r hr => absurd hr (by simp [fd156]), fun r hr => absurd hr (by simp [fd156])⟩
theorem fa140 : FaX fd140 140 :=
  ⟨FdOk.of Go.Proofs.Try.func140 (by kernel_rfl), by kernel_rfl, fun r hr => absurd hr (by simp [fd140]), fun r hr => absurd hr (by simp [fd140])⟩
theorem fa103 : FaX fd103 103 :=
  ⟨FdOk.of Go.Proofs.Try.func103 (by kernel_rfl), by kernel_rfl, fun r hr => by
    simp only [fd103, List.mem_cons, List.not_mem_nil, or_false] at hr
    subst hr; kernel_rfl, fun r hr => absurd hr (by simp [fd103])⟩
theorem fa138 : FaX fd138 138 :=
  ⟨FdOk.of Go.Proofs.Try.func138 (by kernel_rfl), by kernel_rfl, fun r hr => by
    simp only [fd138, List.mem_cons, List.not_mem_nil, or_false] at hr
    subst hr; kernel_rfl, fun r hr => absurd hr (by simp [fd138])⟩
theorem fa102 : FaX fd102 102 :=
  ⟨FdOk.of Go.Proofs.Try.func102 (by kernel_rfl), by kernel_rfl, fun r hr => absurd hr (by simp [fd102]), fun r hr => absurd hr (by simp [fd102])⟩
theorem fa48 : FaX fd48 48 :=
  ⟨FdOk.of Go.Proofs.Try.func48 (by kernel_rfl), by kernel_rfl, fun r hr => absurd hr (by simp [fd48]), fun r hr => absurd hr (by simp [fd48])⟩
theorem fa110 : FaX fd110 110 :=
  ⟨FdOk.of Go.Proofs.Try.func110 (by kernel_rfl), by kernel_rfl, fun r hr => by
    simp only [fd110, List.mem_cons, List.not_mem_nil, or_false] at hr
    subst hr; kernel_rfl, fun r hr => absurd hr (by simp [fd110])⟩
theorem fa104 : FaX fd104 104 :=
  ⟨FdOk.of Go.Proofs.Try.func104 (by kernel_rfl), by kernel_rfl, fun r hr => absurd hr (by simp [fd104]), fun r hr => absurd hr (by simp [fd104])⟩
theorem fa77 : FaX fd77 77 :=
  ⟨FdOk.of Go.Proofs.Try.func77 (by kernel_rfl), by kernel_rfl, fun r hr => absurd hr (by simp [fd77]), fun r hr => absurd hr (by simp [fd77])⟩
theorem fa49 : FaX fd49 49 :=
  ⟨FdOk.of Go.Proofs.Try.func49 (by kernel_rfl), by kernel_rfl, fun r hr => absurd hr (by simp [fd49]), fun r hr => absurd hr (by simp [fd49])⟩
theorem fa74 : FaX fd74 74 :=
  ⟨FdOk.of Go.Proofs.Try.func74 (by kernel_rfl), by kernel_rfl, fun r hr => by
    simp only [fd74, List.mem_cons, List.not_mem_nil, or_false] at hr
    subst hr; kernel_rfl, fun r hr => absurd hr (by simp [fd74])⟩
theorem fa24 : FaX fd24 24 :=
  ⟨FdOk.of Go.Proofs.Try.func24 (by kernel_rfl), by kernel_rfl, fun r hr => absurd hr (by simp [fd24]), fun r hr => absurd hr (by simp [fd24])⟩
theorem fa105 : FaX fd105 105 :=
  ⟨FdOk.of Go.Proofs.Try.func105 (by kernel_rfl), by kernel_rfl, fun r hr => by
    simp only [fd105, List.mem_cons, List.not_mem_nil, or_false] at hr
    subst hr; kernel_rfl, fun r hr => absurd hr (by simp [fd105])⟩
theorem fa50 : FaX fd50 50 :=
  ⟨FdOk.of Go.Proofs.Try.func50 (by kernel_rfl), by kernel_rfl, fun r hr => absurd hr (by simp [fd50]), fun r hr => absurd hr (by simp [fd50])⟩
theorem fa157 : FaX fd157 157 :=
  ⟨FdOk.of Go.Proofs.Try.func157 (by kernel_rfl), by kernel_rfl, fun r hr => by
    simp only [fd157, List.mem_cons, List.not_mem_nil, or_false] at hr
    rcases hr with rfl | rfl | rfl | rfl <;> kernel_rfl, fun r hr => absurd hr (by simp [fd157])⟩
theorem fa141 : FaX fd141 141 :=
  ⟨FdOk.of Go.Proofs.Try.func141 (by kernel_rfl), by kernel_rfl, fun r hr => by
    simp only [fd141, List.mem_cons, List.not_mem_nil, or_false] at hr
    rcases hr with rfl | rfl <;> kernel_rfl, fun r hr => absurd hr (by simp [fd141])⟩
theorem fa106 : FaX fd106 106 :=
  ⟨FdOk.of Go.Proofs.Try.func106 (by kernel_rfl), by kernel_rfl, fun r hr => absurd hr (by simp [fd106]), fun r hr => absurd hr (by simp [fd106])⟩
theorem fa51 : FaX fd51 51 :=
  ⟨FdOk.of Go.Proofs.Try.func51 (by kernel_rfl), by kernel_rfl, fun r hr => absurd hr (by simp [fd51]), fun r hr => absurd hr (by simp [fd51])⟩
theorem fa142 : FaX fd142 142 :=
  ⟨FdOk.of Go.Proofs.Try.func142 (by kernel_rfl), by kernel_rfl, fun r hr => absurd hr (by simp [fd142]), fun r hr => absurd hr (by simp [fd142])⟩
theorem fa107 : FaX fd107 107 :=
  ⟨FdOk.of Go.Proofs.Try.func107 (by kernel_rfl), by kernel_rfl, fun r hr => by
    simp only [fd107, List.mem_cons, List.not_mem_nil, or_false] at hr
    subst hr; kernel_rfl, fun r hr => absurd hr (by simp [fd107])⟩
theorem fa145 : FaX fd145 145 :=
  ⟨FdOk.of Go.Proofs.Try.func145 (by kernel_rfl), by kernel_rfl, fun r hr => by
    simp only [fd145, List.mem_cons, List.not_mem_nil, or_false] at hr
    rcases hr with rfl | rfl <;> kernel_rfl, fun r hr => absurd hr (by simp [fd145])⟩
theorem fa146 : FaX fd146 146 :=
  ⟨FdOk.of Go.Proofs.Try.func146 (by kernel_rfl), by kernel_rfl, fun r hr => by
    simp only [fd146, List.mem_cons, List.not_mem_nil, or_false] at hr
    rcases hr with rfl | rfl <;> kernel_rfl, fun r hr => absurd hr (by simp [fd146])⟩
theorem fa108 : FaX fd108 108 :=
  ⟨FdOk.of Go.Proofs.Try.func108 (by kernel_rfl), by kernel_rfl, fun r hr => by
    simp only [fd108, List.mem_cons, List.not_mem_nil, or_false] at hr
    rcases hr with rfl | rfl <;> kernel_rfl, fun r hr => absurd hr (by simp [fd108])⟩
theorem fa52 : FaX fd52 52 :=
  ⟨FdOk.of Go.Proofs.Try.func52 (by kernel_rfl), by kernel_rfl, fun r hr => by
    simp only [fd52, List.mem_cons, List.not_mem_nil, or_false] at hr
    rcases hr with rfl | rfl <;> kernel_rfl, fun r hr => absurd hr (by simp [fd52])⟩
theorem fa13 : FaX fd13 13 :=
  ⟨FdOk.of Go.Proofs.Try.func13 (by kernel_rfl), by kernel_rfl, fun r hr => by
    simp only [fd13, List.mem_cons, List.not_mem_nil, or_false] at hr
    subst hr; kernel_rfl, fun r hr => absurd hr (by simp [fd13])⟩
theorem fa14 : FaX fd14 14 :=
  ⟨FdOk.of Go.Proofs.Try.func14 (by kernel_rfl), by kernel_rfl, fun r hr => absurd hr (by simp [fd14]), fun r hr => absurd hr (by simp [fd14])⟩
theorem fa53 : FaX fd53 53 :=
  ⟨FdOk.of Go.Proofs.Try.func53 (by kernel_rfl), by kernel_rfl, fun r hr => absurd hr (by simp [fd53]), fun r hr => absurd hr (by simp [fd53])⟩
theorem fa5 : FaX fd5 5 :=
  ⟨FdOk.of Go.Proofs.Try.func5 (by kernel_rfl), by kernel_rfl, fun r hr => absurd hr (by simp [fd5]), fun r hr => by
    simp only [fd5, List.mem_cons, List.not_mem_nil, or_false] at hr
    rcases hr with rfl | rfl <;> kernel_rfl⟩
theorem envOk : EnvOk Go.Proofs.Try.prog E := EnvOk.of (envTy_of rfl tyOk strOk) (by kernel_rfl) rfl (by
  simp only [fdTab, List.forall_mem_cons]
  exact ⟨fa6, fa55, fa60, fa61, fa82, fa69, fa87, fa111, fa54, fa42, fa97, fa96, fa112, fa56, fa91, fa132, fa118, fa99, fa151, fa137, fa95, fa150, fa136, fa101, fa147, fa133, fa134, fa135, fa130, fa100, fa119, fa148, fa120, fa73, fa43, fa114, fa58, fa160, fa149, fa123, fa124, fa109, fa126, fa125, fa144, fa159, fa158, fa143, fa127, fa93, fa44, fa45, fa131, fa98, fa47, fa128, fa129, fa94, fa89, fa90, fa10000, fa81, fa46, fa154, fa153, fa161, fa152, fa139, fa162, fa155, fa156, fa140, fa103, fa138, fa102, fa48, fa110, fa104, fa77, fa49, fa74, fa24, fa105, fa50, fa157, fa141, fa106, fa51, fa142, fa107, fa145, fa146, fa108, fa52, fa13, fa14, fa53, fa5, fun q hq => absurd hq (by simp)⟩)
end Go.Ev.Yteclcmiopobnaaa
