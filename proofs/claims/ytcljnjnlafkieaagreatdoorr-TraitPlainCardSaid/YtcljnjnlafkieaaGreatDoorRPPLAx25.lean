-- Written by this session's program (wip/tools/pr.py over the kit's print).
import Derived.Test.YtcljnjnlafkieaaGreatDoorRPh
import Derived.Test.YtcljnjnlafkieaaGreatDoorRPPLAx0
import Derived.Test.YtcljnjnlafkieaaGreatDoorRPPLAx23
namespace Go.Proofs.YtcljnjnlafkieaaGreatDoorR.PPLA
open Go.RowKit Go.Proofs.YtcljnjnlafkieaaGreatDoorRW.PrintWords Go.Proofs.YtcljnjnlafkieaaGreatDoorRW.PrintLast Go.Proofs.YtcljnjnlafkieaaGreatDoorRW.PrintMore
attribute [local go_sem] max2_int min2_int max_two min_two max_three min_three max_four min_four
set_option linter.unusedVariables false
set_option linter.unusedSimpArgs false
def tollbookref13_Check.f (k : Nat) (l0 : List (S45)) : Option (Int) := if (l0.length : Int) = 0 then (some 0) else ((tollbookref13_Of.f k l0).bind fun bt424 => (if bt424.2.2.2.2.2.2.2 = true then (some 0) else (some 131)))
def tollbookref13_among.l0 : Nat → List ByteArray → ByteArray → Int → Option (Bool)
 | 0, _, _, _ => none
 | k + 1, x0, x1, x5 => if x5 < (x0.length : Int) then (if 0 ≤ x5 then (if (rdOf ByteArray.empty x0 x5).toList = x1.toList then (some true) else (tollbookref13_among.l0 k x0 x1 (wrap64 (x5 + 1)))) else (none)) else (some false)
def tollbookref13_among.f (k : Nat) (l0 : List ByteArray) (a1 : ByteArray) : Option (Bool) := tollbookref13_among.l0 k l0 a1 0
end Go.Proofs.YtcljnjnlafkieaaGreatDoorR.PPLA
