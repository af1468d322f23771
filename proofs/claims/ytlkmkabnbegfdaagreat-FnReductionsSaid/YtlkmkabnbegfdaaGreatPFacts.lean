/- The evaluator's tables are the program's. -/
import Derived.KernelRfl
import Derived.Test.YtlkmkabnbegfdaaGreatPEnv
import Derived.Test.YtlkmkabnbegfdaaGreatV4
set_option linter.unusedVariables false
set_option linter.unusedSimpArgs false
namespace Go.Ev.YtlkmkabnbegfdaaGreatP
open Go.Ev
theorem zTV:E.str.all (isStrB Go.Proofs.Tryz.prog)=true:=by kernel_rfl
def FaX (d:FD) (n:Nat):Prop:=FdOk Go.Proofs.Tryz.prog d∧E.ld n=none∧(∀ r∈d.loops,E.ld r.2.lid=some ⟨n,r.1,r.2,false⟩)∧∀ r∈d.joins,E.ld r.2.lid=some ⟨n,r.1,r.2,true⟩
theorem tyOk:tyTab.all (fun q=>tyOkB Go.Proofs.Tryz.prog q.2 q.1)=true:=by kernel_rfl
theorem fa87:FaX fd87 87:=
  ⟨FdOk.of Go.Proofs.Tryz.func87 (by kernel_rfl),by kernel_rfl,fun r hr=>absurd hr (by simp[fd87]),fun r hr=>absurd hr (by simp[fd87])⟩
theorem fa80:FaX fd80 80:=
  ⟨FdOk.of Go.Proofs.Tryz.func80 (by kernel_rfl),by kernel_rfl,fun r hr=>by
    simp only[fd80,List.mem_cons,List.not_mem_nil,or_false] at hr
    subst hr;kernel_rfl,fun r hr=>absurd hr (by simp[fd80])⟩
theorem fa61:FaX fd61 61:=
  ⟨FdOk.of Go.Proofs.Tryz.func61 (by kernel_rfl),by kernel_rfl,fun r hr=>absurd hr (by simp[fd61]),fun r hr=>absurd hr (by simp[fd61])⟩
theorem fa83:FaX fd83 83:=
  ⟨FdOk.of Go.Proofs.Tryz.func83 (by kernel_rfl),by kernel_rfl,fun r hr=>absurd hr (by simp[fd83]),fun r hr=>absurd hr (by simp[fd83])⟩
theorem fa84:FaX fd84 84:=
  ⟨FdOk.of Go.Proofs.Tryz.func84 (by kernel_rfl),by kernel_rfl,fun r hr=>by
    simp only[fd84,List.mem_cons,List.not_mem_nil,or_false] at hr
    subst hr;kernel_rfl,fun r hr=>absurd hr (by simp[fd84])⟩
theorem fa58:FaX fd58 58:=
  ⟨FdOk.of Go.Proofs.Tryz.func58 (by kernel_rfl),by kernel_rfl,fun r hr=>by
    simp only[fd58,List.mem_cons,List.not_mem_nil,or_false] at hr
    rcases hr with rfl | rfl<;>kernel_rfl,fun r hr=>absurd hr (by simp[fd58])⟩
theorem fa53:FaX fd53 53:=
  ⟨FdOk.of Go.Proofs.Tryz.func53 (by kernel_rfl),by kernel_rfl,fun r hr=>by
    simp only[fd53,List.mem_cons,List.not_mem_nil,or_false] at hr
    subst hr;kernel_rfl,fun r hr=>absurd hr (by simp[fd53])⟩
theorem fa57:FaX fd57 57:=
  ⟨FdOk.of Go.Proofs.Tryz.func57 (by kernel_rfl),by kernel_rfl,fun r hr=>by
    simp only[fd57,List.mem_cons,List.not_mem_nil,or_false] at hr
    subst hr;kernel_rfl,fun r hr=>absurd hr (by simp[fd57])⟩
theorem fa54:FaX fd54 54:=
  ⟨FdOk.of Go.Proofs.Tryz.func54 (by kernel_rfl),by kernel_rfl,fun r hr=>by
    simp only[fd54,List.mem_cons,List.not_mem_nil,or_false] at hr
    subst hr;kernel_rfl,fun r hr=>absurd hr (by simp[fd54])⟩
theorem zVf:FaX fd104 104:=
  ⟨FdOk.of Go.Proofs.Tryz.func104 (by kernel_rfl),by kernel_rfl,fun r hr=>absurd hr (by simp[fd104]),fun r hr=>absurd hr (by simp[fd104])⟩
theorem fa98:FaX fd98 98:=
  ⟨FdOk.of Go.Proofs.Tryz.func98 (by kernel_rfl),by kernel_rfl,fun r hr=>by
    simp only[fd98,List.mem_cons,List.not_mem_nil,or_false] at hr
    rcases hr with rfl | rfl<;>kernel_rfl,fun r hr=>absurd hr (by simp[fd98])⟩
theorem fa85:FaX fd85 85:=
  ⟨FdOk.of Go.Proofs.Tryz.func85 (by kernel_rfl),by kernel_rfl,fun r hr=>by
    simp only[fd85,List.mem_cons,List.not_mem_nil,or_false] at hr
    rcases hr with rfl | rfl<;>kernel_rfl,fun r hr=>absurd hr (by simp[fd85])⟩
theorem fa81:FaX fd81 81:=
  ⟨FdOk.of Go.Proofs.Tryz.func81 (by kernel_rfl),by kernel_rfl,fun r hr=>absurd hr (by simp[fd81]),fun r hr=>absurd hr (by simp[fd81])⟩
theorem fa82:FaX fd82 82:=
  ⟨FdOk.of Go.Proofs.Tryz.func82 (by kernel_rfl),by kernel_rfl,fun r hr=>absurd hr (by simp[fd82]),fun r hr=>absurd hr (by simp[fd82])⟩
theorem fa52:FaX fd52 52:=
  ⟨FdOk.of Go.Proofs.Tryz.func52 (by kernel_rfl),by kernel_rfl,fun r hr=>absurd hr (by simp[fd52]),fun r hr=>absurd hr (by simp[fd52])⟩
theorem fa59:FaX fd59 59:=
  ⟨FdOk.of Go.Proofs.Tryz.func59 (by kernel_rfl),by kernel_rfl,fun r hr=>absurd hr (by simp[fd59]),fun r hr=>absurd hr (by simp[fd59])⟩
theorem fp86:PrimOk Go.Proofs.Tryz.prog 86 .sub64:=(zSl Go.Proofs.Tryz.func86 (by kernel_rfl) (by kernel_rfl)).2 (by kernel_rfl)
theorem fp97:PrimOk Go.Proofs.Tryz.prog 97 .add64:=(zSl Go.Proofs.Tryz.func97 (by kernel_rfl) (by kernel_rfl)).1 (by kernel_rfl)
theorem envOk:EnvOk Go.Proofs.Tryz.prog E:=EnvOk.of (zNa rfl tyOk zTV) (by kernel_rfl) rfl (by
  simp only[fdTab,List.forall_mem_cons]
  exact⟨fa87,fa80,fa61,fa83,fa84,fa58,fa53,fa57,fa54,zVf,fa98,fa85,fa81,fa82,fa52,fa59,fun q hq=>absurd hq (by simp)⟩) rfl (by
  simp only[extTab,List.forall_mem_cons]
  exact fun q hq=>absurd hq (by simp)) (ptab:=primTab) rfl (by
  simp only[primTab,List.forall_mem_cons]
  exact⟨fp86,fp97,fun q hq=>absurd hq (by simp)⟩)
end Go.Ev.YtlkmkabnbegfdaaGreatP
