/- Facts on the head of this program's dump, told once for all rows. No conditions. -/
import Derived.Test.YtlkmkabnbegfdaaGreatRows
import Derived.KernelRfl
import Derived.JoinedOf
set_option maxRecDepth 100000
namespace Go.Proofs.YtlkmkabnbegfdaaGreat.Head
open Go
theorem ord0 : Tryz.prog.initOrder = "harness 780d84f4cc8bd0aaa2224fc897447b80a5ce1cbb6103bfe2170ec14ec12714e4 cut at loop.example/g01205/laws.FnReductions" := by kernel_rfl
theorem ord1 : "harness 780d84f4cc8bd0aaa2224fc897447b80a5ce1cbb6103bfe2170ec14ec12714e4 cut at loop.example/g01205/laws.FnReductions" = String.ofList [Char.ofNat 104, Char.ofNat 97, Char.ofNat 114, Char.ofNat 110, Char.ofNat 101, Char.ofNat 115, Char.ofNat 115, Char.ofNat 32, Char.ofNat 55, Char.ofNat 56, Char.ofNat 48, Char.ofNat 100, Char.ofNat 56, Char.ofNat 52, Char.ofNat 102, Char.ofNat 52, Char.ofNat 99, Char.ofNat 99, Char.ofNat 56, Char.ofNat 98, Char.ofNat 100, Char.ofNat 48, Char.ofNat 97, Char.ofNat 97, Char.ofNat 97, Char.ofNat 50, Char.ofNat 50, Char.ofNat 50, Char.ofNat 52, Char.ofNat 102, Char.ofNat 99, Char.ofNat 56, Char.ofNat 57, Char.ofNat 55, Char.ofNat 52, Char.ofNat 52, Char.ofNat 55, Char.ofNat 98, Char.ofNat 56, Char.ofNat 48, Char.ofNat 97, Char.ofNat 53, Char.ofNat 99, Char.ofNat 101, Char.ofNat 49, Char.ofNat 99, Char.ofNat 98, Char.ofNat 98, Char.ofNat 54, Char.ofNat 49, Char.ofNat 48, Char.ofNat 51, Char.ofNat 98, Char.ofNat 102, Char.ofNat 101, Char.ofNat 50, Char.ofNat 49, Char.ofNat 55, Char.ofNat 48, Char.ofNat 101, Char.ofNat 99, Char.ofNat 49, Char.ofNat 52, Char.ofNat 101, Char.ofNat 99, Char.ofNat 49, Char.ofNat 50, Char.ofNat 55, Char.ofNat 49, Char.ofNat 52, Char.ofNat 101, Char.ofNat 52, Char.ofNat 32, Char.ofNat 99, Char.ofNat 117, Char.ofNat 116, Char.ofNat 32, Char.ofNat 97, Char.ofNat 116, Char.ofNat 32, Char.ofNat 108, Char.ofNat 111, Char.ofNat 111, Char.ofNat 112, Char.ofNat 46, Char.ofNat 101, Char.ofNat 120, Char.ofNat 97, Char.ofNat 109, Char.ofNat 112, Char.ofNat 108, Char.ofNat 101, Char.ofNat 47, Char.ofNat 103, Char.ofNat 48, Char.ofNat 49, Char.ofNat 50, Char.ofNat 48, Char.ofNat 53, Char.ofNat 47, Char.ofNat 108, Char.ofNat 97, Char.ofNat 119, Char.ofNat 115, Char.ofNat 46, Char.ofNat 70, Char.ofNat 110, Char.ofNat 82, Char.ofNat 101, Char.ofNat 100, Char.ofNat 117, Char.ofNat 99, Char.ofNat 116, Char.ofNat 105, Char.ofNat 111, Char.ofNat 110, Char.ofNat 115] := by kernel_rfl
theorem ordl : Tryz.prog.initOrder.toList = [Char.ofNat 104, Char.ofNat 97, Char.ofNat 114, Char.ofNat 110, Char.ofNat 101, Char.ofNat 115, Char.ofNat 115, Char.ofNat 32, Char.ofNat 55, Char.ofNat 56, Char.ofNat 48, Char.ofNat 100, Char.ofNat 56, Char.ofNat 52, Char.ofNat 102, Char.ofNat 52, Char.ofNat 99, Char.ofNat 99, Char.ofNat 56, Char.ofNat 98, Char.ofNat 100, Char.ofNat 48, Char.ofNat 97, Char.ofNat 97, Char.ofNat 97, Char.ofNat 50, Char.ofNat 50, Char.ofNat 50, Char.ofNat 52, Char.ofNat 102, Char.ofNat 99, Char.ofNat 56, Char.ofNat 57, Char.ofNat 55, Char.ofNat 52, Char.ofNat 52, Char.ofNat 55, Char.ofNat 98, Char.ofNat 56, Char.ofNat 48, Char.ofNat 97, Char.ofNat 53, Char.ofNat 99, Char.ofNat 101, Char.ofNat 49, Char.ofNat 99, Char.ofNat 98, Char.ofNat 98, Char.ofNat 54, Char.ofNat 49, Char.ofNat 48, Char.ofNat 51, Char.ofNat 98, Char.ofNat 102, Char.ofNat 101, Char.ofNat 50, Char.ofNat 49, Char.ofNat 55, Char.ofNat 48, Char.ofNat 101, Char.ofNat 99, Char.ofNat 49, Char.ofNat 52, Char.ofNat 101, Char.ofNat 99, Char.ofNat 49, Char.ofNat 50, Char.ofNat 55, Char.ofNat 49, Char.ofNat 52, Char.ofNat 101, Char.ofNat 52, Char.ofNat 32, Char.ofNat 99, Char.ofNat 117, Char.ofNat 116, Char.ofNat 32, Char.ofNat 97, Char.ofNat 116, Char.ofNat 32, Char.ofNat 108, Char.ofNat 111, Char.ofNat 111, Char.ofNat 112, Char.ofNat 46, Char.ofNat 101, Char.ofNat 120, Char.ofNat 97, Char.ofNat 109, Char.ofNat 112, Char.ofNat 108, Char.ofNat 101, Char.ofNat 47, Char.ofNat 103, Char.ofNat 48, Char.ofNat 49, Char.ofNat 50, Char.ofNat 48, Char.ofNat 53, Char.ofNat 47, Char.ofNat 108, Char.ofNat 97, Char.ofNat 119, Char.ofNat 115, Char.ofNat 46, Char.ofNat 70, Char.ofNat 110, Char.ofNat 82, Char.ofNat 101, Char.ofNat 100, Char.ofNat 117, Char.ofNat 99, Char.ofNat 116, Char.ofNat 105, Char.ofNat 111, Char.ofNat 110, Char.ofNat 115] := by rw [ord0, ord1, String.toList_ofList]
theorem heard : Tryz.prog.stopsHeard = true := by
  have h : Tryz.prog.funcs.all (fun fn => !fn.norace) = true := by kernel_rfl
  unfold Program.stopsHeard
  rw [Array.all_eq_true] at h ⊢
  intro i hi
  rw [h i hi, Bool.or_true]
theorem first : (behindMainWord (wordsSigns Tryz.prog.initOrder.toList)).head? = some "cut".toList := by
  rw [ordl]
  kernel_rfl
theorem make_of (P : Program) (h : (behindMainWord (wordsSigns P.initOrder.toList)).head? = some "cut".toList) : P.make = some .cut := by
  rw [Program.make]
  generalize behindMainWord (wordsSigns P.initOrder.toList) = l at h ⊢
  cases l with
  | nil => simp at h
  | cons c rest =>
    rw [List.head?_cons, Option.some.injEq] at h
    subst h
    have e1 : ("cut".toList == "gc".toList) = false := by kernel_rfl
    have e2 : ("cut".toList == "spec".toList) = false := by kernel_rfl
    have e3 : ("cut".toList == "cut".toList) = true := by kernel_rfl
    simp only [e1, e2, e3, Bool.or_self, Bool.false_eq_true, if_false, Bool.true_or, if_true]
theorem strip (rest : List (List Char)) : stripLifts liftWords ("cut".toList :: rest) = ([], "cut".toList :: rest) := by kernel_rfl
theorem may_of (P : Program) (h : (behindMainWord (wordsSigns P.initOrder.toList)).head? = some "cut".toList) (h2 : P.laysLater = false) (h3 : P.bearsReflect = false) (h4 : P.doorFits [] = true) : P.mayEnter = true := by
  rw [Program.mayEnter]
  generalize behindMainWord (wordsSigns P.initOrder.toList) = l at h ⊢
  cases l with
  | nil => simp at h
  | cons c rest =>
    rw [List.head?_cons, Option.some.injEq] at h
    subst h
    have e3 : (some "cut".toList == some "cut".toList) = true := by kernel_rfl
    simp only [strip, h2, h3, h4, List.head?_cons, e3]
    simp
theorem a1 : Tryz.prog.laysLater = false := by kernel_rfl
theorem a2 : Tryz.prog.bearsReflect = false := by kernel_rfl
theorem a3 : Tryz.prog.doorFits [] = true := by kernel_rfl
theorem may : Tryz.prog.mayEnter = true := may_of _ first a1 a2 a3
theorem make : Tryz.prog.make = some .cut := make_of _ first
theorem lifts : Tryz.prog.liftsFinal = false := by
  unfold Program.liftsFinal Program.headLifts
  rw [ordl]
  kernel_rfl
theorem own : ownKnob Tryz.prog.godebug = none := by kernel_rfl
theorem laidOut : laidOutB Tryz.prog = true := by kernel_rfl
end Go.Proofs.YtlkmkabnbegfdaaGreat.Head
