-- Written by this session's program (wip/tools/pr.py over the kit's print).
import Derived.Test.YtcljnjnlafkieaaGreatDoorRPh
import Derived.Test.YtcljnjnlafkieaaGreatDoorRPPLAx0
import Derived.Test.YtcljnjnlafkieaaGreatDoorRPPLAx22
namespace Go.Proofs.YtcljnjnlafkieaaGreatDoorR.PPLA
open Go.RowKit Go.Proofs.YtcljnjnlafkieaaGreatDoorRW.PrintWords Go.Proofs.YtcljnjnlafkieaaGreatDoorRW.PrintLast Go.Proofs.YtcljnjnlafkieaaGreatDoorRW.PrintMore
attribute [local go_sem] max2_int min2_int max_two min_two max_three min_three max_four min_four
set_option linter.unusedVariables false
set_option linter.unusedSimpArgs false
def tollbookref13_Of.f (k : Nat) (l0 : List (S45)) : Option (Int × Int × ByteArray × Int × Int × Int × (List (S51)) × Bool) := if (l0.length : Int) > 64 then (some (0, 0, (⟨#[]⟩ : ByteArray), 0, 0, 0, ([] : List (S51)), false)) else ((tollbookref13_grown.f k l0 0 1).bind fun bt345 => (some (bt345.1, bt345.2.1, bt345.2.2.1, bt345.2.2.2.1, bt345.2.2.2.2.1, bt345.2.2.2.2.2.1, bt345.2.2.2.2.2.2.1, (bt345.2.2.2.2.2.2.2 == (l0.length : Int)))))
end Go.Proofs.YtcljnjnlafkieaaGreatDoorR.PPLA
