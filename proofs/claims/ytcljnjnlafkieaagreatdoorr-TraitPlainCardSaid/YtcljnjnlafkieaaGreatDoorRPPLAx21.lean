-- Written by this session's program (wip/tools/pr.py over the kit's print).
import Derived.Test.YtcljnjnlafkieaaGreatDoorRPh
import Derived.Test.YtcljnjnlafkieaaGreatDoorRPPLAx0
import Derived.Test.YtcljnjnlafkieaaGreatDoorRPPLAx1
import Derived.Test.YtcljnjnlafkieaaGreatDoorRPPLAx20
namespace Go.Proofs.YtcljnjnlafkieaaGreatDoorR.PPLA
open Go.RowKit Go.Proofs.YtcljnjnlafkieaaGreatDoorRW.PrintWords Go.Proofs.YtcljnjnlafkieaaGreatDoorRW.PrintLast Go.Proofs.YtcljnjnlafkieaaGreatDoorRW.PrintMore
attribute [local go_sem] max2_int min2_int max_two min_two max_three min_three max_four min_four
set_option linter.unusedVariables false
set_option linter.unusedSimpArgs false
attribute [local go_sem high] eqA43
mutual
def tollbookref13_single.j0 : Nat → Int → Bool → Int → Int → ByteArray → Int → Int → Int → Int → Int → Option (Bool)
 | 0, _, _, _, _, _, _, _, _, _, _ => none
 | k + 1, x7, x8, x315000, x315001, x315002, x315003, x315004, x315005, x316000, x316001 => if x8 = true then (if x315001 ≥ 2 then (if x315002.toList = ([] : List UInt8) then (if x315003 = 0 then (some (x315004 == x316000 && (x315005 == x316001))) else (some false)) else (some false)) else (some false)) else (if x7 = 3 then (if x315001 = 1 then (if x315002.toList = ([] : List UInt8) then (if x315003 = 0 then (some (x315004 == x316000 && (x315005 == x316001))) else (some false)) else (some false)) else (some false)) else (if x7 = 4 then (tollbookref13_single.j1 k x7 (x7 == 4) x315000 x315001 x315002 x315003 x315004 x315005 x316000 x316001) else (tollbookref13_single.j1 k x7 (x7 == 5) x315000 x315001 x315002 x315003 x315004 x315005 x316000 x316001)))
def tollbookref13_single.j1 : Nat → Int → Bool → Int → Int → ByteArray → Int → Int → Int → Int → Int → Option (Bool)
 | 0, _, _, _, _, _, _, _, _, _, _ => none
 | k + 1, x7, x51, x315000, x315001, x315002, x315003, x315004, x315005, x316000, x316001 => if x51 = true then ((tollbookref12_Word.f k x315002).bind fun t316 => (if x315001 = 0 then (if t316 = true then (if x315003 = 0 then (some (x315004 == x316000 && (x315005 == x316001))) else (some false)) else (some false)) else (some false))) else (if x7 = 6 then (if x315001 = 0 then (if x315002.toList = ([] : List UInt8) then (if x315003 ≥ 1 then (if x315003 ≤ 4 then (if x315004 ≥ 0 then ((tollbookref06_Check.f x315004 x315005).bind fun t317 => (some (t317 == 0))) else (some false)) else (some false)) else (some false)) else (some false)) else (some false)) else (if x7 = 7 then (if x315001 = 0 then (if x315002.toList = ([] : List UInt8) then (if x315003 ≥ 1 then (if x315003 ≤ 4 then (if x315004 ≥ 0 then ((tollbookref06_Check.f x315004 x315005).bind fun t318 => (some (t318 == 0))) else (some false)) else (some false)) else (some false)) else (some false)) else (some false)) else (some false)))
end
def tollbookref13_single.f (k : Nat) (a0_0 : Int) (a0_1 : Int) (a0_2 : ByteArray) (a0_3 : Int) (a0_4 : Int) (a0_5 : Int) : Option (Bool) := if a0_0 = 1 then (tollbookref13_single.j0 k a0_0 (a0_0 == 1) a0_0 a0_1 a0_2 a0_3 a0_4 a0_5 0 0) else (tollbookref13_single.j0 k a0_0 (a0_0 == 2) a0_0 a0_1 a0_2 a0_3 a0_4 a0_5 0 0)
end Go.Proofs.YtcljnjnlafkieaaGreatDoorR.PPLA
