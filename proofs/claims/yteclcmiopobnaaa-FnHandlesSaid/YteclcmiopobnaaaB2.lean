/- Bodies, part 2. -/
import Derived.KernelRfl
import Derived.Test.YteclcmiopobnaaaEnv
set_option linter.unusedVariables false
namespace Go.Ev.Yteclcmiopobnaaa
open Go.Ev
/-- laws.FnHandles -/
noncomputable def bw_FnHandles (call : Oracle) (a0 : List Int) : Option (List TV) :=
  (call iw_big [tLU8 a0]).bind fun o1 =>
  bif (gB o1 0) then
    some [tB true]
  else
    (call is_DrawFirstHandle [tLU8 a0]).bind fun o2 =>
    (call ii_FirstHandle [tPILI ((gPILI o2 0).1, (gPILI o2 0).2)]).bind fun o3 =>
    (call is_FirstHandle [tPILI ((gPILI o2 0).1, (gPILI o2 0).2)]).bind fun o4 =>
    (call is_DrawReduceHandle [tLU8 a0]).bind fun o5 =>
    (call ii_ReduceHandle [tPILI ((gPILI o5 0).1, (gPILI o5 0).2)]).bind fun o6 =>
    (call is_ReduceHandle [tPILI ((gPILI o5 0).1, (gPILI o5 0).2)]).bind fun o7 =>
    bif ((gI o3 1) != (gI o4 1)) then
      some [tB false]
    else
      (call iw_likeInts [tLI (gLI o3 0), tLI (gLI o4 0)]).bind fun o8 =>
      bif (!(gB o8 0)) then
        some [tB false]
      else
        bif ((gI o6 1) != (gI o7 1)) then
          some [tB false]
        else
          (call iw_braid5 [tPILI ((gPILI o6 0).1, (gPILI o6 0).2), tPILI ((gPILI o7 0).1, (gPILI o7 0).2)]).bind fun o9 =>
          bif (!(gB o9 0)) then
            some [tB false]
          else
            bif ((gI o3 1) == 0) then
              bif (((List.length (gLI o3 0) : Nat) : Int) != 2) then
                some [tB false]
              else
                bif decide (0 < ((List.length (gLI o3 0) : Nat) : Int)) then
                  bif (decide (0 ≤ (List.getD (gLI o3 0) 0 0)) && decide ((List.getD (gLI o3 0) 0 0) < ((List.length ((gPILI o2 0).2) : Nat) : Int))) then
                    bif decide (1 < ((List.length (gLI o3 0) : Nat) : Int)) then
                      bif (decide (0 ≤ (List.getD (gLI o3 0) 1 0)) && decide ((List.getD (gLI o3 0) 1 0) < ((List.length ((gPILI o2 0).2) : Nat) : Int))) then
                        bif ((List.getD ((gPILI o2 0).2) (Int.toNat (List.getD (gLI o3 0) 0 0)) 0) != (wi64 (0 - (List.getD ((gPILI o2 0).2) (Int.toNat (List.getD (gLI o3 0) 1 0)) 0)))) then
                          some [tB false]
                        else
                          bif ((gI o6 1) == 0) then
                            (call ii_EndsOf [tPILI ((gPILI o5 0).1, (gPILI o5 0).2)]).bind fun o10 =>
                            (call ii_EndsOf [tPILI ((gPILI o6 0).1, (gPILI o6 0).2)]).bind fun o11 =>
                            (call ii_SumOf [tPILI ((gPILI o5 0).1, (gPILI o5 0).2)]).bind fun o12 =>
                            (call ii_SumOf [tPILI ((gPILI o6 0).1, (gPILI o6 0).2)]).bind fun o13 =>
                            bif ((gI o10 1) != 0) then
                              some [tB false]
                            else
                              bif ((gI o11 1) != 0) then
                                some [tB false]
                              else
                                bif ((gI o12 1) != 0) then
                                  some [tB false]
                                else
                                  bif ((gI o13 1) != 0) then
                                    some [tB false]
                                  else
                                    (call iw_likeInts [tLI (gLI o10 0), tLI (gLI o11 0)]).bind fun o14 =>
                                    bif (!(gB o14 0)) then
                                      some [tB false]
                                    else
                                      bif ((gI o12 0) != (gI o13 0)) then
                                        some [tB false]
                                      else
                                        (call iw_FnHandles_j20 [tLU8 a0]).bind fun o55 =>
                                        some [tB (gB o55 1)]
                          else
                            (call iw_FnHandles_j20 [tLU8 a0]).bind fun o56 =>
                            some [tB (gB o56 1)]
                      else none
                    else none
                  else none
                else none
            else
              bif ((gI o6 1) == 0) then
                (call ii_EndsOf [tPILI ((gPILI o5 0).1, (gPILI o5 0).2)]).bind fun o57 =>
                (call ii_EndsOf [tPILI ((gPILI o6 0).1, (gPILI o6 0).2)]).bind fun o58 =>
                (call ii_SumOf [tPILI ((gPILI o5 0).1, (gPILI o5 0).2)]).bind fun o59 =>
                (call ii_SumOf [tPILI ((gPILI o6 0).1, (gPILI o6 0).2)]).bind fun o60 =>
                bif ((gI o57 1) != 0) then
                  some [tB false]
                else
                  bif ((gI o58 1) != 0) then
                    some [tB false]
                  else
                    bif ((gI o59 1) != 0) then
                      some [tB false]
                    else
                      bif ((gI o60 1) != 0) then
                        some [tB false]
                      else
                        (call iw_likeInts [tLI (gLI o57 0), tLI (gLI o58 0)]).bind fun o61 =>
                        bif (!(gB o61 0)) then
                          some [tB false]
                        else
                          bif ((gI o59 0) != (gI o60 0)) then
                            some [tB false]
                          else
                            (call iw_FnHandles_j20 [tLU8 a0]).bind fun o62 =>
                            some [tB (gB o62 1)]
              else
                (call iw_FnHandles_j20 [tLU8 a0]).bind fun o63 =>
                some [tB (gB o63 1)]
theorem ew_FnHandles (call : Oracle) (a0 : List Int) : run1 E call iw_FnHandles [tLU8 a0] = bw_FnHandles call a0 := by kernel_rfl
theorem vw_FnHandles (a0 : List Int) {o : List TV} (h : bw_FnHandles R a0 = some o) : R iw_FnHandles [tLU8 a0] = some o := ev_step ((ew_FnHandles R a0).trans h)
end Go.Ev.Yteclcmiopobnaaa
