/- The evaluator's tables are the program's. -/
import Derived.KernelRfl
import Derived.Test.YtlkmkabnbegfdaaGreatEnv
import Derived.Test.YtlkmkabnbegfdaaGreatV4
set_option linter.unusedVariables false
set_option linter.unusedSimpArgs false
namespace Go.Ev.YtlkmkabnbegfdaaGreat
open Go.Ev
theorem zTV:E.str.all (isStrB Go.Proofs.Tryz.prog)=true:=by kernel_rfl
def FaX (d:FD) (n:Nat):Prop:=FdOk Go.Proofs.Tryz.prog d∧E.ld n=none∧(∀ r∈d.loops,E.ld r.2.lid=some ⟨n,r.1,r.2,false⟩)∧∀ r∈d.joins,E.ld r.2.lid=some ⟨n,r.1,r.2,true⟩
theorem tyOk:tyTab.all (fun q=>tyOkB Go.Proofs.Tryz.prog q.2 q.1)=true:=by kernel_rfl
theorem fa4:FaX fd4 4:=
  ⟨FdOk.of Go.Proofs.Tryz.func4 (by kernel_rfl),by kernel_rfl,fun r hr=>absurd hr (by simp[fd4]),fun r hr=>absurd hr (by simp[fd4])⟩
theorem fa15:FaX fd15 15:=
  ⟨FdOk.of Go.Proofs.Tryz.func15 (by kernel_rfl),by kernel_rfl,fun r hr=>by
    simp only[fd15,List.mem_cons,List.not_mem_nil,or_false] at hr
    subst hr;kernel_rfl,fun r hr=>absurd hr (by simp[fd15])⟩
theorem fa18:FaX fd18 18:=
  ⟨FdOk.of Go.Proofs.Tryz.func18 (by kernel_rfl),by kernel_rfl,fun r hr=>absurd hr (by simp[fd18]),fun r hr=>absurd hr (by simp[fd18])⟩
theorem fa35:FaX fd35 35:=
  ⟨FdOk.of Go.Proofs.Tryz.func35 (by kernel_rfl),by kernel_rfl,fun r hr=>absurd hr (by simp[fd35]),fun r hr=>absurd hr (by simp[fd35])⟩
theorem fa21:FaX fd21 21:=
  ⟨FdOk.of Go.Proofs.Tryz.func21 (by kernel_rfl),by kernel_rfl,fun r hr=>by
    simp only[fd21,List.mem_cons,List.not_mem_nil,or_false] at hr
    subst hr;kernel_rfl,fun r hr=>absurd hr (by simp[fd21])⟩
theorem fa63:FaX fd63 63:=
  ⟨FdOk.of Go.Proofs.Tryz.func63 (by kernel_rfl),by kernel_rfl,fun r hr=>absurd hr (by simp[fd63]),fun r hr=>absurd hr (by simp[fd63])⟩
theorem fa36:FaX fd36 36:=
  ⟨FdOk.of Go.Proofs.Tryz.func36 (by kernel_rfl),by kernel_rfl,fun r hr=>absurd hr (by simp[fd36]),fun r hr=>absurd hr (by simp[fd36])⟩
theorem fa37:FaX fd37 37:=
  ⟨FdOk.of Go.Proofs.Tryz.func37 (by kernel_rfl),by kernel_rfl,fun r hr=>absurd hr (by simp[fd37]),fun r hr=>absurd hr (by simp[fd37])⟩
theorem fa16:FaX fd16 16:=
  ⟨FdOk.of Go.Proofs.Tryz.func16 (by kernel_rfl),by kernel_rfl,fun r hr=>absurd hr (by simp[fd16]),fun r hr=>absurd hr (by simp[fd16])⟩
theorem fa38:FaX fd38 38:=
  ⟨FdOk.of Go.Proofs.Tryz.func38 (by kernel_rfl),by kernel_rfl,fun r hr=>absurd hr (by simp[fd38]),fun r hr=>absurd hr (by simp[fd38])⟩
theorem fa17:FaX fd17 17:=
  ⟨FdOk.of Go.Proofs.Tryz.func17 (by kernel_rfl),by kernel_rfl,fun r hr=>by
    simp only[fd17,List.mem_cons,List.not_mem_nil,or_false] at hr
    subst hr;kernel_rfl,fun r hr=>absurd hr (by simp[fd17])⟩
theorem fa69:FaX fd69 69:=
  ⟨FdOk.of Go.Proofs.Tryz.func69 (by kernel_rfl),by kernel_rfl,fun r hr=>by
    simp only[fd69,List.mem_cons,List.not_mem_nil,or_false] at hr
    subst hr;kernel_rfl,fun r hr=>absurd hr (by simp[fd69])⟩
theorem fa42:FaX fd42 42:=
  ⟨FdOk.of Go.Proofs.Tryz.func42 (by kernel_rfl),by kernel_rfl,fun r hr=>absurd hr (by simp[fd42]),fun r hr=>absurd hr (by simp[fd42])⟩
theorem fa40:FaX fd40 40:=
  ⟨FdOk.of Go.Proofs.Tryz.func40 (by kernel_rfl),by kernel_rfl,fun r hr=>by
    simp only[fd40,List.mem_cons,List.not_mem_nil,or_false] at hr
    subst hr;kernel_rfl,fun r hr=>absurd hr (by simp[fd40])⟩
theorem fa65:FaX fd65 65:=
  ⟨FdOk.of Go.Proofs.Tryz.func65 (by kernel_rfl),by kernel_rfl,fun r hr=>by
    simp only[fd65,List.mem_cons,List.not_mem_nil,or_false] at hr
    subst hr;kernel_rfl,fun r hr=>absurd hr (by simp[fd65])⟩
theorem fa91:FaX fd91 91:=
  ⟨FdOk.of Go.Proofs.Tryz.func91 (by kernel_rfl),by kernel_rfl,fun r hr=>absurd hr (by simp[fd91]),fun r hr=>absurd hr (by simp[fd91])⟩
theorem fa67:FaX fd67 67:=
  ⟨FdOk.of Go.Proofs.Tryz.func67 (by kernel_rfl),by kernel_rfl,fun r hr=>by
    simp only[fd67,List.mem_cons,List.not_mem_nil,or_false] at hr
    subst hr;kernel_rfl,fun r hr=>absurd hr (by simp[fd67])⟩
theorem fa92:FaX fd92 92:=
  ⟨FdOk.of Go.Proofs.Tryz.func92 (by kernel_rfl),by kernel_rfl,fun r hr=>by
    simp only[fd92,List.mem_cons,List.not_mem_nil,or_false] at hr
    subst hr;kernel_rfl,fun r hr=>absurd hr (by simp[fd92])⟩
theorem fa68:FaX fd68 68:=
  ⟨FdOk.of Go.Proofs.Tryz.func68 (by kernel_rfl),by kernel_rfl,fun r hr=>absurd hr (by simp[fd68]),fun r hr=>absurd hr (by simp[fd68])⟩
theorem zVi:FaX fd101 101:=
  ⟨FdOk.of Go.Proofs.Tryz.func101 (by kernel_rfl),by kernel_rfl,fun r hr=>absurd hr (by simp[fd101]),fun r hr=>absurd hr (by simp[fd101])⟩
theorem zVj:FaX fd100 100:=
  ⟨FdOk.of Go.Proofs.Tryz.func100 (by kernel_rfl),by kernel_rfl,fun r hr=>by
    simp only[fd100,List.mem_cons,List.not_mem_nil,or_false] at hr
    subst hr;kernel_rfl,fun r hr=>absurd hr (by simp[fd100])⟩
theorem fa90:FaX fd90 90:=
  ⟨FdOk.of Go.Proofs.Tryz.func90 (by kernel_rfl),by kernel_rfl,fun r hr=>by
    simp only[fd90,List.mem_cons,List.not_mem_nil,or_false] at hr
    rcases hr with rfl | rfl<;>kernel_rfl,fun r hr=>absurd hr (by simp[fd90])⟩
theorem fa66:FaX fd66 66:=
  ⟨FdOk.of Go.Proofs.Tryz.func66 (by kernel_rfl),by kernel_rfl,fun r hr=>by
    simp only[fd66,List.mem_cons,List.not_mem_nil,or_false] at hr
    rcases hr with rfl | rfl<;>kernel_rfl,fun r hr=>absurd hr (by simp[fd66])⟩
theorem fa41:FaX fd41 41:=
  ⟨FdOk.of Go.Proofs.Tryz.func41 (by kernel_rfl),by kernel_rfl,fun r hr=>absurd hr (by simp[fd41]),fun r hr=>absurd hr (by simp[fd41])⟩
theorem fa20:FaX fd20 20:=
  ⟨FdOk.of Go.Proofs.Tryz.func20 (by kernel_rfl),by kernel_rfl,fun r hr=>by
    simp only[fd20,List.mem_cons,List.not_mem_nil,or_false] at hr
    subst hr;kernel_rfl,fun r hr=>absurd hr (by simp[fd20])⟩
theorem fa64:FaX fd64 64:=
  ⟨FdOk.of Go.Proofs.Tryz.func64 (by kernel_rfl),by kernel_rfl,fun r hr=>by
    simp only[fd64,List.mem_cons,List.not_mem_nil,or_false] at hr
    subst hr;kernel_rfl,fun r hr=>absurd hr (by simp[fd64])⟩
theorem fa39:FaX fd39 39:=
  ⟨FdOk.of Go.Proofs.Tryz.func39 (by kernel_rfl),by kernel_rfl,fun r hr=>by
    simp only[fd39,List.mem_cons,List.not_mem_nil,or_false] at hr
    subst hr;kernel_rfl,fun r hr=>absurd hr (by simp[fd39])⟩
theorem fa19:FaX fd19 19:=
  ⟨FdOk.of Go.Proofs.Tryz.func19 (by kernel_rfl),by kernel_rfl,fun r hr=>by
    simp only[fd19,List.mem_cons,List.not_mem_nil,or_false] at hr
    rcases hr with rfl | rfl | rfl | rfl<;>kernel_rfl,fun r hr=>absurd hr (by simp[fd19])⟩
theorem fa5:FaX fd5 5:=
  ⟨FdOk.of Go.Proofs.Tryz.func5 (by kernel_rfl),by kernel_rfl,fun r hr=>absurd hr (by simp[fd5]),fun r hr=>absurd hr (by simp[fd5])⟩
theorem fa61:FaX fd61 61:=
  ⟨FdOk.of Go.Proofs.Tryz.func61 (by kernel_rfl),by kernel_rfl,fun r hr=>absurd hr (by simp[fd61]),fun r hr=>absurd hr (by simp[fd61])⟩
theorem fa43:FaX fd43 43:=
  ⟨FdOk.of Go.Proofs.Tryz.func43 (by kernel_rfl),by kernel_rfl,fun r hr=>absurd hr (by simp[fd43]),fun r hr=>absurd hr (by simp[fd43])⟩
theorem fa44:FaX fd44 44:=
  ⟨FdOk.of Go.Proofs.Tryz.func44 (by kernel_rfl),by kernel_rfl,fun r hr=>absurd hr (by simp[fd44]),fun r hr=>absurd hr (by simp[fd44])⟩
theorem fa22:FaX fd22 22:=
  ⟨FdOk.of Go.Proofs.Tryz.func22 (by kernel_rfl),by kernel_rfl,fun r hr=>by
    simp only[fd22,List.mem_cons,List.not_mem_nil,or_false] at hr
    subst hr;kernel_rfl,fun r hr=>absurd hr (by simp[fd22])⟩
theorem fa70:FaX fd70 70:=
  ⟨FdOk.of Go.Proofs.Tryz.func70 (by kernel_rfl),by kernel_rfl,fun r hr=>by
    simp only[fd70,List.mem_cons,List.not_mem_nil,or_false] at hr
    subst hr;kernel_rfl,fun r hr=>absurd hr (by simp[fd70])⟩
theorem fa47:FaX fd47 47:=
  ⟨FdOk.of Go.Proofs.Tryz.func47 (by kernel_rfl),by kernel_rfl,fun r hr=>absurd hr (by simp[fd47]),fun r hr=>absurd hr (by simp[fd47])⟩
theorem fa74:FaX fd74 74:=
  ⟨FdOk.of Go.Proofs.Tryz.func74 (by kernel_rfl),by kernel_rfl,fun r hr=>by
    simp only[fd74,List.mem_cons,List.not_mem_nil,or_false] at hr
    subst hr;kernel_rfl,fun r hr=>absurd hr (by simp[fd74])⟩
theorem fa75:FaX fd75 75:=
  ⟨FdOk.of Go.Proofs.Tryz.func75 (by kernel_rfl),by kernel_rfl,fun r hr=>by
    simp only[fd75,List.mem_cons,List.not_mem_nil,or_false] at hr
    subst hr;kernel_rfl,fun r hr=>absurd hr (by simp[fd75])⟩
theorem fa73:FaX fd73 73:=
  ⟨FdOk.of Go.Proofs.Tryz.func73 (by kernel_rfl),by kernel_rfl,fun r hr=>by
    simp only[fd73,List.mem_cons,List.not_mem_nil,or_false] at hr
    subst hr;kernel_rfl,fun r hr=>absurd hr (by simp[fd73])⟩
theorem fa72:FaX fd72 72:=
  ⟨FdOk.of Go.Proofs.Tryz.func72 (by kernel_rfl),by kernel_rfl,fun r hr=>absurd hr (by simp[fd72]),fun r hr=>absurd hr (by simp[fd72])⟩
theorem fa93:FaX fd93 93:=
  ⟨FdOk.of Go.Proofs.Tryz.func93 (by kernel_rfl),by kernel_rfl,fun r hr=>by
    simp only[fd93,List.mem_cons,List.not_mem_nil,or_false] at hr
    rcases hr with rfl | rfl<;>kernel_rfl,fun r hr=>absurd hr (by simp[fd93])⟩
theorem fa71:FaX fd71 71:=
  ⟨FdOk.of Go.Proofs.Tryz.func71 (by kernel_rfl),by kernel_rfl,fun r hr=>by
    simp only[fd71,List.mem_cons,List.not_mem_nil,or_false] at hr
    rcases hr with rfl | rfl<;>kernel_rfl,fun r hr=>absurd hr (by simp[fd71])⟩
theorem fa46:FaX fd46 46:=
  ⟨FdOk.of Go.Proofs.Tryz.func46 (by kernel_rfl),by kernel_rfl,fun r hr=>by
    simp only[fd46,List.mem_cons,List.not_mem_nil,or_false] at hr
    rcases hr with rfl | rfl | rfl<;>kernel_rfl,fun r hr=>absurd hr (by simp[fd46])⟩
theorem fa94:FaX fd94 94:=
  ⟨FdOk.of Go.Proofs.Tryz.func94 (by kernel_rfl),by kernel_rfl,fun r hr=>absurd hr (by simp[fd94]),fun r hr=>absurd hr (by simp[fd94])⟩
theorem fa76:FaX fd76 76:=
  ⟨FdOk.of Go.Proofs.Tryz.func76 (by kernel_rfl),by kernel_rfl,fun r hr=>by
    simp only[fd76,List.mem_cons,List.not_mem_nil,or_false] at hr
    subst hr;kernel_rfl,fun r hr=>absurd hr (by simp[fd76])⟩
theorem fa77:FaX fd77 77:=
  ⟨FdOk.of Go.Proofs.Tryz.func77 (by kernel_rfl),by kernel_rfl,fun r hr=>absurd hr (by simp[fd77]),fun r hr=>absurd hr (by simp[fd77])⟩
theorem fa48:FaX fd48 48:=
  ⟨FdOk.of Go.Proofs.Tryz.func48 (by kernel_rfl),by kernel_rfl,fun r hr=>absurd hr (by simp[fd48]),fun r hr=>absurd hr (by simp[fd48])⟩
theorem fa24:FaX fd24 24:=
  ⟨FdOk.of Go.Proofs.Tryz.func24 (by kernel_rfl),by kernel_rfl,fun r hr=>by
    simp only[fd24,List.mem_cons,List.not_mem_nil,or_false] at hr
    subst hr;kernel_rfl,fun r hr=>absurd hr (by simp[fd24])⟩
theorem fa45:FaX fd45 45:=
  ⟨FdOk.of Go.Proofs.Tryz.func45 (by kernel_rfl),by kernel_rfl,fun r hr=>by
    simp only[fd45,List.mem_cons,List.not_mem_nil,or_false] at hr
    subst hr;kernel_rfl,fun r hr=>absurd hr (by simp[fd45])⟩
theorem fa23:FaX fd23 23:=
  ⟨FdOk.of Go.Proofs.Tryz.func23 (by kernel_rfl),by kernel_rfl,fun r hr=>absurd hr (by simp[fd23]),fun r hr=>absurd hr (by simp[fd23])⟩
theorem fa6:FaX fd6 6:=
  ⟨FdOk.of Go.Proofs.Tryz.func6 (by kernel_rfl),by kernel_rfl,fun r hr=>absurd hr (by simp[fd6]),fun r hr=>absurd hr (by simp[fd6])⟩
theorem fa49:FaX fd49 49:=
  ⟨FdOk.of Go.Proofs.Tryz.func49 (by kernel_rfl),by kernel_rfl,fun r hr=>by
    simp only[fd49,List.mem_cons,List.not_mem_nil,or_false] at hr
    subst hr;kernel_rfl,fun r hr=>absurd hr (by simp[fd49])⟩
theorem fa25:FaX fd25 25:=
  ⟨FdOk.of Go.Proofs.Tryz.func25 (by kernel_rfl),by kernel_rfl,fun r hr=>absurd hr (by simp[fd25]),fun r hr=>absurd hr (by simp[fd25])⟩
theorem fa7:FaX fd7 7:=
  ⟨FdOk.of Go.Proofs.Tryz.func7 (by kernel_rfl),by kernel_rfl,fun r hr=>absurd hr (by simp[fd7]),fun r hr=>absurd hr (by simp[fd7])⟩
theorem fa27:FaX fd27 27:=
  ⟨FdOk.of Go.Proofs.Tryz.func27 (by kernel_rfl),by kernel_rfl,fun r hr=>by
    simp only[fd27,List.mem_cons,List.not_mem_nil,or_false] at hr
    subst hr;kernel_rfl,fun r hr=>absurd hr (by simp[fd27])⟩
theorem fa28:FaX fd28 28:=
  ⟨FdOk.of Go.Proofs.Tryz.func28 (by kernel_rfl),by kernel_rfl,fun r hr=>absurd hr (by simp[fd28]),fun r hr=>absurd hr (by simp[fd28])⟩
theorem zT6:FaX fd10000 10000:=
  ⟨FdOk.of Go.Proofs.Tryz.func26 (by kernel_rfl),by kernel_rfl,fun r hr=>by
    simp only[fd10000,List.mem_cons,List.not_mem_nil,or_false] at hr
    subst hr;kernel_rfl,fun r hr=>absurd hr (by simp[fd10000])⟩
theorem fa8:FaX fd8 8:=
  ⟨FdOk.of Go.Proofs.Tryz.func8 (by kernel_rfl),by kernel_rfl,fun r hr=>absurd hr (by simp[fd8]),fun r hr=>absurd hr (by simp[fd8])⟩
theorem fa29:FaX fd29 29:=
  ⟨FdOk.of Go.Proofs.Tryz.func29 (by kernel_rfl),by kernel_rfl,fun r hr=>absurd hr (by simp[fd29]),fun r hr=>absurd hr (by simp[fd29])⟩
theorem fa9:FaX fd9 9:=
  ⟨FdOk.of Go.Proofs.Tryz.func9 (by kernel_rfl),by kernel_rfl,fun r hr=>absurd hr (by simp[fd9]),fun r hr=>absurd hr (by simp[fd9])⟩
theorem fa81:FaX fd81 81:=
  ⟨FdOk.of Go.Proofs.Tryz.func81 (by kernel_rfl),by kernel_rfl,fun r hr=>absurd hr (by simp[fd81]),fun r hr=>absurd hr (by simp[fd81])⟩
theorem zVh:FaX fd102 102:=
  ⟨FdOk.of Go.Proofs.Tryz.func102 (by kernel_rfl),by kernel_rfl,fun r hr=>by
    simp only[fd102,List.mem_cons,List.not_mem_nil,or_false] at hr
    subst hr;kernel_rfl,fun r hr=>absurd hr (by simp[fd102])⟩
theorem fa95:FaX fd95 95:=
  ⟨FdOk.of Go.Proofs.Tryz.func95 (by kernel_rfl),by kernel_rfl,fun r hr=>by
    simp only[fd95,List.mem_cons,List.not_mem_nil,or_false] at hr
    subst hr;kernel_rfl,fun r hr=>absurd hr (by simp[fd95])⟩
theorem zVg:FaX fd103 103:=
  ⟨FdOk.of Go.Proofs.Tryz.func103 (by kernel_rfl),by kernel_rfl,fun r hr=>absurd hr (by simp[fd103]),fun r hr=>absurd hr (by simp[fd103])⟩
theorem fa96:FaX fd96 96:=
  ⟨FdOk.of Go.Proofs.Tryz.func96 (by kernel_rfl),by kernel_rfl,fun r hr=>by
    simp only[fd96,List.mem_cons,List.not_mem_nil,or_false] at hr
    subst hr;kernel_rfl,fun r hr=>absurd hr (by simp[fd96])⟩
theorem fa78:FaX fd78 78:=
  ⟨FdOk.of Go.Proofs.Tryz.func78 (by kernel_rfl),by kernel_rfl,fun r hr=>by
    simp only[fd78,List.mem_cons,List.not_mem_nil,or_false] at hr
    subst hr;kernel_rfl,fun r hr=>absurd hr (by simp[fd78])⟩
theorem fa79:FaX fd79 79:=
  ⟨FdOk.of Go.Proofs.Tryz.func79 (by kernel_rfl),by kernel_rfl,fun r hr=>by
    simp only[fd79,List.mem_cons,List.not_mem_nil,or_false] at hr
    subst hr;kernel_rfl,fun r hr=>absurd hr (by simp[fd79])⟩
theorem fa50:FaX fd50 50:=
  ⟨FdOk.of Go.Proofs.Tryz.func50 (by kernel_rfl),by kernel_rfl,fun r hr=>absurd hr (by simp[fd50]),fun r hr=>absurd hr (by simp[fd50])⟩
theorem fa30:FaX fd30 30:=
  ⟨FdOk.of Go.Proofs.Tryz.func30 (by kernel_rfl),by kernel_rfl,fun r hr=>absurd hr (by simp[fd30]),fun r hr=>absurd hr (by simp[fd30])⟩
theorem fa10:FaX fd10 10:=
  ⟨FdOk.of Go.Proofs.Tryz.func10 (by kernel_rfl),by kernel_rfl,fun r hr=>absurd hr (by simp[fd10]),fun r hr=>absurd hr (by simp[fd10])⟩
theorem fa12:FaX fd12 12:=
  ⟨FdOk.of Go.Proofs.Tryz.func12 (by kernel_rfl),by kernel_rfl,fun r hr=>by
    simp only[fd12,List.mem_cons,List.not_mem_nil,or_false] at hr
    subst hr;kernel_rfl,fun r hr=>absurd hr (by simp[fd12])⟩
theorem fa31:FaX fd31 31:=
  ⟨FdOk.of Go.Proofs.Tryz.func31 (by kernel_rfl),by kernel_rfl,fun r hr=>absurd hr (by simp[fd31]),fun r hr=>absurd hr (by simp[fd31])⟩
theorem fa11:FaX fd11 11:=
  ⟨FdOk.of Go.Proofs.Tryz.func11 (by kernel_rfl),by kernel_rfl,fun r hr=>by
    simp only[fd11,List.mem_cons,List.not_mem_nil,or_false] at hr
    subst hr;kernel_rfl,fun r hr=>absurd hr (by simp[fd11])⟩
theorem fa32:FaX fd32 32:=
  ⟨FdOk.of Go.Proofs.Tryz.func32 (by kernel_rfl),by kernel_rfl,fun r hr=>absurd hr (by simp[fd32]),fun r hr=>absurd hr (by simp[fd32])⟩
theorem fa33:FaX fd33 33:=
  ⟨FdOk.of Go.Proofs.Tryz.func33 (by kernel_rfl),by kernel_rfl,fun r hr=>absurd hr (by simp[fd33]),fun r hr=>absurd hr (by simp[fd33])⟩
theorem fa87:FaX fd87 87:=
  ⟨FdOk.of Go.Proofs.Tryz.func87 (by kernel_rfl),by kernel_rfl,fun r hr=>absurd hr (by simp[fd87]),fun r hr=>absurd hr (by simp[fd87])⟩
theorem fa60:FaX fd60 60:=
  ⟨FdOk.of Go.Proofs.Tryz.func60 (by kernel_rfl),by kernel_rfl,fun r hr=>absurd hr (by simp[fd60]),fun r hr=>absurd hr (by simp[fd60])⟩
theorem fa89:FaX fd89 89:=
  ⟨FdOk.of Go.Proofs.Tryz.func89 (by kernel_rfl),by kernel_rfl,fun r hr=>absurd hr (by simp[fd89]),fun r hr=>absurd hr (by simp[fd89])⟩
theorem zT4:FaX fd10002 10002:=
  ⟨FdOk.of Go.Proofs.Tryz.func99 (by kernel_rfl),by kernel_rfl,fun r hr=>by
    simp only[fd10002,List.mem_cons,List.not_mem_nil,or_false] at hr
    subst hr;kernel_rfl,fun r hr=>absurd hr (by simp[fd10002])⟩
theorem zT5:FaX fd10001 10001:=
  ⟨FdOk.of Go.Proofs.Tryz.func88 (by kernel_rfl),by kernel_rfl,fun r hr=>absurd hr (by simp[fd10001]),fun r hr=>absurd hr (by simp[fd10001])⟩
theorem fa62:FaX fd62 62:=
  ⟨FdOk.of Go.Proofs.Tryz.func62 (by kernel_rfl),by kernel_rfl,fun r hr=>absurd hr (by simp[fd62]),fun r hr=>absurd hr (by simp[fd62])⟩
theorem fa34:FaX fd34 34:=
  ⟨FdOk.of Go.Proofs.Tryz.func34 (by kernel_rfl),by kernel_rfl,fun r hr=>by
    simp only[fd34,List.mem_cons,List.not_mem_nil,or_false] at hr
    subst hr;kernel_rfl,fun r hr=>absurd hr (by simp[fd34])⟩
theorem fa13:FaX fd13 13:=
  ⟨FdOk.of Go.Proofs.Tryz.func13 (by kernel_rfl),by kernel_rfl,fun r hr=>absurd hr (by simp[fd13]),fun r hr=>absurd hr (by simp[fd13])⟩
theorem fa14:FaX fd14 14:=
  ⟨FdOk.of Go.Proofs.Tryz.func14 (by kernel_rfl),by kernel_rfl,fun r hr=>by
    simp only[fd14,List.mem_cons,List.not_mem_nil,or_false] at hr
    subst hr;kernel_rfl,fun r hr=>absurd hr (by simp[fd14])⟩
theorem fa3:FaX fd3 3:=
  ⟨FdOk.of Go.Proofs.Tryz.func3 (by kernel_rfl),by kernel_rfl,fun r hr=>absurd hr (by simp[fd3]),fun r hr=>by
    simp only[fd3,List.mem_cons,List.not_mem_nil,or_false] at hr
    subst hr;kernel_rfl⟩
theorem fx33:∃ fd,E.fd 33=some fd∧ExtOk Go.Proofs.Tryz.prog E fd (.val Go.Ev.YtlkmkabnbegfdaaGreatP.alexF):=
  ⟨fd33,by kernel_rfl,Go.Ev.YtlkmkabnbegfdaaGreatP.alex_ok rfl rfl rfl (by kernel_rfl) (by kernel_rfl) (by decide)⟩
theorem envOk:EnvOk Go.Proofs.Tryz.prog E:=EnvOk.of (zNa rfl tyOk zTV) (by kernel_rfl) rfl (by
  simp only[fdTab,List.forall_mem_cons]
  exact⟨fa4,fa15,fa18,fa35,fa21,fa63,fa36,fa37,fa16,fa38,fa17,fa69,fa42,fa40,fa65,fa91,fa67,fa92,fa68,zVi,zVj,fa90,fa66,fa41,fa20,fa64,fa39,fa19,fa5,fa61,fa43,fa44,fa22,fa70,fa47,fa74,fa75,fa73,fa72,fa93,fa71,fa46,fa94,fa76,fa77,fa48,fa24,fa45,fa23,fa6,fa49,fa25,fa7,fa27,fa28,zT6,fa8,fa29,fa9,fa81,zVh,fa95,zVg,fa96,fa78,fa79,fa50,fa30,fa10,fa12,fa31,fa11,fa32,fa33,fa87,fa60,fa89,zT4,zT5,fa62,fa34,fa13,fa14,fa3,fun q hq=>absurd hq (by simp)⟩) rfl (by
  simp only[extTab,List.forall_mem_cons]
  exact⟨fx33,fun q hq=>absurd hq (by simp)⟩) (ptab:=primTab) rfl (by
  simp only[primTab,List.forall_mem_cons]
  exact fun q hq=>absurd hq (by simp))
end Go.Ev.YtlkmkabnbegfdaaGreat
