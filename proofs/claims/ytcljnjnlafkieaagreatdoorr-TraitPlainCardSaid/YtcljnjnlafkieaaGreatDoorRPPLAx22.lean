-- Written by this session's program (wip/tools/pr.py over the kit's print).
import Derived.Test.YtcljnjnlafkieaaGreatDoorRPh
import Derived.Test.YtcljnjnlafkieaaGreatDoorRPPLAx0
import Derived.Test.YtcljnjnlafkieaaGreatDoorRPPLAx21
namespace Go.Proofs.YtcljnjnlafkieaaGreatDoorR.PPLA
open Go.RowKit Go.Proofs.YtcljnjnlafkieaaGreatDoorRW.PrintWords Go.Proofs.YtcljnjnlafkieaaGreatDoorRW.PrintLast Go.Proofs.YtcljnjnlafkieaaGreatDoorRW.PrintMore
attribute [local go_sem] max2_int min2_int max_two min_two max_three min_three max_four min_four
set_option linter.unusedVariables false
set_option linter.unusedSimpArgs false
mutual
def tollbookref13_grown.j0 : Nat → List (S45) → Int → Int → Bool → Option (Int × Int × ByteArray × Int × Int × Int × (List (S51)) × Int)
 | 0, _, _, _, _ => none
 | k + 1, x0, x1, x2, x21 => if x21 = true then (some (0, 0, (⟨#[]⟩ : ByteArray), 0, 0, 0, ([] : List (S51)), (-1))) else (if 0 ≤ x1 then (if x1 < (x0.length : Int) then ((tollbookref13_single.f k ((rd_T45 x0 x1).f0) ((rd_T45 x0 x1).f1) ((rd_T45 x0 x1).f2) ((rd_T45 x0 x1).f3) ((rd_T45 x0 x1).f4.f0) ((rd_T45 x0 x1).f4.f1)).bind fun t322 => (if t322 = true then (tollbookref13_grown.l0 k x0 (wrap64 (x1 + 1)) x2 0 ((rd_T45 x0 x1).f0) ((rd_T45 x0 x1).f1) ((rd_T45 x0 x1).f2) ((rd_T45 x0 x1).f3) ((rd_T45 x0 x1).f4.f0) ((rd_T45 x0 x1).f4.f1) ((rd_T45 x0 x1).f0) ((rd_T45 x0 x1).f1) ((rd_T45 x0 x1).f2) ((rd_T45 x0 x1).f3) ((rd_T45 x0 x1).f4.f0) ((rd_T45 x0 x1).f4.f1) ([] : List (S51))) else (some (0, 0, (⟨#[]⟩ : ByteArray), 0, 0, 0, ([] : List (S51)), (-1))))) else (none)) else (none))
def tollbookref13_grown.l0 : Nat → List (S45) → Int → Int → Int → Int → Int → ByteArray → Int → Int → Int → Int → Int → ByteArray → Int → Int → Int → List (S51) → Option (Int × Int × ByteArray × Int × Int × Int × (List (S51)) × Int)
 | 0, _, _, _, _, _, _, _, _, _, _, _, _, _, _, _, _, _ => none
 | k + 1, x0, x1, x2, x11, x322000, x322001, x322002, x322003, x322004, x322005, x324000, x324001, x324002, x324003, x324004, x324005, x324006 => if x11 < x322001 then ((tollbookref13_grown.f k x0 x1 (wrap64 (x2 + 1))).bind fun bt324 => (if bt324.2.2.2.2.2.2.2 < 0 then (some (0, 0, (⟨#[]⟩ : ByteArray), 0, 0, 0, ([] : List (S51)), (-1))) else (if x322000 = 1 then (if bt324.1 = x322000 then (some (0, 0, (⟨#[]⟩ : ByteArray), 0, 0, 0, ([] : List (S51)), (-1))) else (if x324006.length < 1759218604441 then (tollbookref13_grown.l0 k x0 bt324.2.2.2.2.2.2.2 x2 (wrap64 (x11 + 1)) x322000 x322001 x322002 x322003 x322004 x322005 x324000 x324001 x324002 x324003 x324004 x324005 (x324006 ++ [(⟨(⟨bt324.1, bt324.2.1, bt324.2.2.1, bt324.2.2.2.1, (⟨bt324.2.2.2.2.1, bt324.2.2.2.2.2.1⟩ : S43)⟩ : S45), bt324.2.2.2.2.2.2.1⟩ : S51)])) else (none))) else (if x322000 = 2 then (if bt324.1 = x322000 then (some (0, 0, (⟨#[]⟩ : ByteArray), 0, 0, 0, ([] : List (S51)), (-1))) else (if x324006.length < 1759218604441 then (tollbookref13_grown.l0 k x0 bt324.2.2.2.2.2.2.2 x2 (wrap64 (x11 + 1)) x322000 x322001 x322002 x322003 x322004 x322005 x324000 x324001 x324002 x324003 x324004 x324005 (x324006 ++ [(⟨(⟨bt324.1, bt324.2.1, bt324.2.2.1, bt324.2.2.2.1, (⟨bt324.2.2.2.2.1, bt324.2.2.2.2.2.1⟩ : S43)⟩ : S45), bt324.2.2.2.2.2.2.1⟩ : S51)])) else (none))) else (if x324006.length < 1759218604441 then (tollbookref13_grown.l0 k x0 bt324.2.2.2.2.2.2.2 x2 (wrap64 (x11 + 1)) x322000 x322001 x322002 x322003 x322004 x322005 x324000 x324001 x324002 x324003 x324004 x324005 (x324006 ++ [(⟨(⟨bt324.1, bt324.2.1, bt324.2.2.1, bt324.2.2.2.1, (⟨bt324.2.2.2.2.1, bt324.2.2.2.2.2.1⟩ : S43)⟩ : S45), bt324.2.2.2.2.2.2.1⟩ : S51)])) else (none)))))) else (some (x324000, x324001, x324002, x324003, x324004, x324005, x324006, x1))
def tollbookref13_grown.f : Nat → List (S45) → Int → Int → Option (Int × Int × ByteArray × Int × Int × Int × (List (S51)) × Int)
 | 0, _, _, _ => none
 | k + 1, l0, a1, a2 => if a1 ≥ (l0.length : Int) then (tollbookref13_grown.j0 k l0 a1 a2 true) else (tollbookref13_grown.j0 k l0 a1 a2 (decide (a2 > 16)))
end
end Go.Proofs.YtcljnjnlafkieaaGreatDoorR.PPLA
