-- Written by this session's program (wip/tools/pr.py over the kit's print).
import Derived.Test.YtcljnjnlafkieaaGreatDoorRPh
import Derived.Test.YtcljnjnlafkieaaGreatDoorRPPLAx0
import Derived.Test.YtcljnjnlafkieaaGreatDoorRPPLAx25
namespace Go.Proofs.YtcljnjnlafkieaaGreatDoorR.PPLA
open Go.RowKit Go.Proofs.YtcljnjnlafkieaaGreatDoorRW.PrintWords Go.Proofs.YtcljnjnlafkieaaGreatDoorRW.PrintLast Go.Proofs.YtcljnjnlafkieaaGreatDoorRW.PrintMore
attribute [local go_sem] max2_int min2_int max_two min_two max_three min_three max_four min_four
set_option linter.unusedVariables false
set_option linter.unusedSimpArgs false
def tollbookref13_put.l0 : Nat → List ByteArray → ByteArray → List ByteArray → Bool → Int → Option (List ByteArray)
 | 0, _, _, _, _, _ => none
 | k + 1, x0, x1, x5, x6, x7 => if x7 < (x0.length : Int) then (if x6 = true then (if 0 ≤ x7 then (if x5.length < 8796093022208 then (tollbookref13_put.l0 k x0 x1 (x5 ++ [rdOf ByteArray.empty x0 x7]) x6 (wrap64 (x7 + 1))) else (none)) else (none)) else (if 0 ≤ x7 then (if (Op.bytesLess x1.toList ((rdOf ByteArray.empty x0 x7).toList)) = true then (if x5.length < 8796093022208 then ((some (x5 ++ [x1] : List ByteArray)).bind fun y442 => (if y442.length < 8796093022208 then (tollbookref13_put.l0 k x0 x1 (y442 ++ [rdOf ByteArray.empty x0 x7]) true (wrap64 (x7 + 1))) else (none))) else (none)) else (if x5.length < 8796093022208 then (tollbookref13_put.l0 k x0 x1 (x5 ++ [rdOf ByteArray.empty x0 x7]) x6 (wrap64 (x7 + 1))) else (none))) else (none))) else (if x6 = true then (some x5) else (if x5.length < 8796093022208 then (some (x5 ++ [x1])) else (none)))
def tollbookref13_put.f (k : Nat) (l0 : List ByteArray) (a1 : ByteArray) : Option (List ByteArray) := (tollbookref13_among.f k l0 a1).bind fun t436 => (if t436 = true then (some l0) else (tollbookref13_put.l0 k l0 a1 ([] : List ByteArray) false 0))
def tollbookref13_Names.l0 : Nat → List (S45) → List ByteArray → List ByteArray → Int → Option (List ByteArray × List ByteArray × Int)
 | 0, _, _, _, _ => none
 | k + 1, x0, x5, x6, x7 => if x7 < (x0.length : Int) then (if 0 ≤ x7 then (if ((rd_T45 x0 x7).f0) = 4 then ((tollbookref13_put.f k x5 ((rd_T45 x0 x7).f2)).bind fun t459 => (if ((rd_T45 x0 x7).f0) = 5 then ((tollbookref13_put.f k x6 ((rd_T45 x0 x7).f2)).bind fun t464 => (tollbookref13_Names.l0 k x0 t459 t464 (wrap64 (x7 + 1)))) else (tollbookref13_Names.l0 k x0 t459 x6 (wrap64 (x7 + 1))))) else (if ((rd_T45 x0 x7).f0) = 5 then ((tollbookref13_put.f k x6 ((rd_T45 x0 x7).f2)).bind fun t469 => (tollbookref13_Names.l0 k x0 x5 t469 (wrap64 (x7 + 1)))) else (tollbookref13_Names.l0 k x0 x5 x6 (wrap64 (x7 + 1))))) else (none)) else (some (x5, x6, 0))
def tollbookref13_Names.f (k : Nat) (l0 : List (S45)) : Option (List ByteArray × List ByteArray × Int) := (tollbookref13_Check.f k l0).bind fun t456 => (if t456 = 0 then (tollbookref13_Names.l0 k l0 ([] : List ByteArray) ([] : List ByteArray) 0) else (some (([] : List ByteArray), ([] : List ByteArray), 131)))
end Go.Proofs.YtcljnjnlafkieaaGreatDoorR.PPLA
