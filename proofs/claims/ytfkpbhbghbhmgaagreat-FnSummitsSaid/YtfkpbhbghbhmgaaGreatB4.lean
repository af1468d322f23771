/- Bodies, part 4. -/
import Derived.KernelRfl
import Derived.Test.YtfkpbhbghbhmgaaGreatEnv
set_option linter.unusedVariables false
namespace Go.Ev.YtfkpbhbghbhmgaaGreat
open Go.Ev
noncomputable section
variable {o : List TV}
def bw_FnSummits (call : Oracle) (a0 : List Int) : Option (List TV) :=
  (call iw_big [tLU8 a0]).bind fun o1 =>
  bif (gB o1 0) then
    some [tB true]
  else
    (call is_DrawSummitOf [tLU8 a0]).bind fun o2 =>
    (call ii_SummitOf [tPIPILA8 (gPIPILA8 o2 0)]).bind fun o3 =>
    (call is_SummitOf [tPIPILA8 (gPIPILA8 o2 0)]).bind fun o4 =>
    bif ((gI o3 1) != (gI o4 1)) then
      some [tB false]
    else
      (call iw_normal9 [tPIPILA8 (gPIPILA8 o3 0), tPIPILA8 (gPIPILA8 o4 0)]).bind fun o5 =>
      bif (!(gB o5 0)) then
        some [tB false]
      else
        (call ii_SummitLengths [tPIPILA8 (gPIPILA8 o2 0)]).bind fun o6 =>
        (call is_SummitLengths [tPIPILA8 (gPIPILA8 o2 0)]).bind fun o7 =>
        bif ((gI o6 1) != (gI o7 1)) then
          some [tB false]
        else
          (call iw_likeInts [tLI (gLI o6 0), tLI (gLI o7 0)]).bind fun o8 =>
          bif (!(gB o8 0)) then
            some [tB false]
          else
            (call ii_SuperSummit [tPIPILA8 (gPIPILA8 o2 0)]).bind fun o9 =>
            (call is_SuperSummit [tPIPILA8 (gPIPILA8 o2 0)]).bind fun o10 =>
            bif ((gI o9 1) != (gI o10 1)) then
              some [tB false]
            else
              (call iw_normals9 [tLPIPILA8 (gLPIPILA8 o9 0), tLPIPILA8 (gLPIPILA8 o10 0)]).bind fun o11 =>
              bif (!(gB o11 0)) then
                some [tB false]
              else
                (call ii_UltraSummit [tPIPILA8 (gPIPILA8 o2 0)]).bind fun o12 =>
                (call is_UltraSummit [tPIPILA8 (gPIPILA8 o2 0)]).bind fun o13 =>
                bif ((gI o12 1) != (gI o13 1)) then
                  some [tB false]
                else
                  (call iw_normals9 [tLPIPILA8 (gLPIPILA8 o12 0), tLPIPILA8 (gLPIPILA8 o13 0)]).bind fun o14 =>
                  bif (!(gB o14 0)) then
                    some [tB false]
                  else
                    (call is_DrawAreConjugate [tLU8 a0]).bind fun o15 =>
                    (call ii_AreConjugate [tPIPILA8 (gPIPILA8 o15 0), tPIPILA8 (gPIPILA8 o15 1)]).bind fun o16 =>
                    (call is_AreConjugate [tPIPILA8 (gPIPILA8 o15 0), tPIPILA8 (gPIPILA8 o15 1)]).bind fun o17 =>
                    bif ((gI o16 1) != (gI o17 1)) then
                      some [tB false]
                    else
                      bif ((gB o16 0) != (gB o17 0)) then
                        some [tB false]
                      else
                        bif ((gI o3 1) != 0) then
                          bif ((gI o3 1) == 3) then
                            some [tB true]
                          else
                            some [tB (((List.length (gLI o6 0) : Nat) : Int) == 0)]
                        else
                          (call iw_roll [tLU8 a0, tU64 9905]).bind fun o18 =>
                          (call iw_letters9 [tPLU8PIU64 (gPLU8PIU64 o18 0), tI ((gPIPILA8 o2 0).1), tI 3]).bind fun o19 =>
                          (call ii_NormalOf [tPILI ((gPIPILA8 o2 0).1, (gLI o19 0))]).bind fun o20 =>
                          (call ii_ConjugateBy [tPIPILA8 (gPIPILA8 o2 0), tPIPILA8 (gPIPILA8 o20 0)]).bind fun o21 =>
                          bif ((gI o20 1) != 0) then
                            some [tB false]
                          else
                            bif ((gI o21 1) != 0) then
                              some [tB true]
                            else
                              (call ii_SummitLengths [tPIPILA8 (gPIPILA8 o21 0)]).bind fun o22 =>
                              bif ((gI o22 1) != 0) then
                                some [tB false]
                              else
                                (call iw_likeInts [tLI (gLI o22 0), tLI (gLI o6 0)]).bind fun o23 =>
                                bif (!(gB o23 0)) then
                                  some [tB false]
                                else
                                  bif decide (0 < ((List.length (gLI o6 0) : Nat) : Int)) then
                                    bif (((gPIPILA8 o3 0).2).1 != (List.getD (gLI o6 0) 0 0)) then
                                      some [tB false]
                                    else
                                      bif decide (1 < ((List.length (gLI o6 0) : Nat) : Int)) then
                                        bif (((List.length (((gPIPILA8 o3 0).2).2) : Nat) : Int) != (List.getD (gLI o6 0) 1 0)) then
                                          some [tB false]
                                        else
                                          bif ((gI o9 1) != 0) then
                                            some [tB true]
                                          else
                                            (call ii_SuperSummit [tPIPILA8 (gPIPILA8 o21 0)]).bind fun o24 =>
                                            (call iw_FnSummits_41 [tI ((gPIPILA8 o3 0).1), tI (((gPIPILA8 o3 0).2).1), tLA8 (((gPIPILA8 o3 0).2).2), tLPIPILA8 (gLPIPILA8 o9 0), tLPIPILA8 (gLPIPILA8 o12 0), tLPIPILA8 (gLPIPILA8 o24 0), tI (gI o24 1), tB false, tI 0]).bind fun o27 =>
                                            bif ((gI o27 4) == 0) then
                                              (call iw_normals9 [tLPIPILA8 (gLPIPILA8 o27 3), tLPIPILA8 (gLPIPILA8 o27 1)]).bind fun o28 =>
                                              bif (gB o28 0) then
                                                bif (gB o27 5) then
                                                  some [tB (decide (0 < ((List.length (gLPIPILA8 o27 2) : Nat) : Int)))]
                                                else
                                                  some [tB false]
                                              else
                                                some [tB false]
                                            else
                                              some [tB false]
                                      else none
                                  else none
theorem vw_FnSummits (a0 : List Int) (h : bw_FnSummits R a0 = some o) : R iw_FnSummits [tLU8 a0] = some o := go_ (b := fun c => bw_FnSummits c a0) (fun c => by kernel_rfl) h
end
end Go.Ev.YtfkpbhbghbhmgaaGreat
