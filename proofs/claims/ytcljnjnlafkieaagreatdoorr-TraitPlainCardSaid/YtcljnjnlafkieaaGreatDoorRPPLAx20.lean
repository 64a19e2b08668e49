-- Written by this session's program (wip/tools/pr.py over the kit's print).
import Derived.Test.YtcljnjnlafkieaaGreatDoorRPh
import Derived.Test.YtcljnjnlafkieaaGreatDoorRPPLAx0
import Derived.Test.YtcljnjnlafkieaaGreatDoorRPPLAx19
namespace Go.Proofs.YtcljnjnlafkieaaGreatDoorR.PPLA
open Go.RowKit Go.Proofs.YtcljnjnlafkieaaGreatDoorRW.PrintWords Go.Proofs.YtcljnjnlafkieaaGreatDoorRW.PrintLast Go.Proofs.YtcljnjnlafkieaaGreatDoorRW.PrintMore
attribute [local go_sem] max2_int min2_int max_two min_two max_three min_three max_four min_four
set_option linter.unusedVariables false
set_option linter.unusedSimpArgs false
def tollbookref12_kept.l0 : Nat → ByteArray → List ByteArray → Int → Option (Bool)
 | 0, _, _, _ => none
 | k + 1, x0, x3, x4 => if x4 < (x3.length : Int) then (if 0 ≤ x4 then (if (rdOf ByteArray.empty x3 x4).toList = x0.toList then (some true) else (tollbookref12_kept.l0 k x0 x3 (wrap64 (x4 + 1)))) else (none)) else (some false)
def tollbookref12_kept.f (k : Nat) (a0 : ByteArray) : Option (Bool) := tollbookref12_kept.l0 k a0 (([(⟨#[99, 117, 114, 114, 101, 110, 99, 121]⟩ : ByteArray), (⟨#[112, 108, 97, 99, 101]⟩ : ByteArray), (⟨#[116, 97, 120]⟩ : ByteArray), (⟨#[114, 97, 116, 101]⟩ : ByteArray), (⟨#[101, 120, 101, 109, 112, 116]⟩ : ByteArray), (⟨#[108, 101, 97, 115, 116]⟩ : ByteArray), (⟨#[105, 110]⟩ : ByteArray), (⟨#[109, 111, 110, 101, 121]⟩ : ByteArray), (⟨#[114, 111, 117, 110, 100]⟩ : ByteArray), (⟨#[108, 105, 110, 101]⟩ : ByteArray), (⟨#[105, 110, 118, 111, 105, 99, 101]⟩ : ByteArray), (⟨#[111, 110]⟩ : ByteArray), (⟨#[105, 110, 115, 116, 101, 97, 100]⟩ : ByteArray), (⟨#[102, 111, 114]⟩ : ByteArray), (⟨#[102, 114, 111, 109]⟩ : ByteArray), (⟨#[116, 111]⟩ : ByteArray), (⟨#[119, 104, 101, 110]⟩ : ByteArray), (⟨#[111, 114]⟩ : ByteArray), (⟨#[97, 110, 100]⟩ : ByteArray), (⟨#[110, 111, 116]⟩ : ByteArray), (⟨#[98, 117, 121, 101, 114]⟩ : ByteArray), (⟨#[97, 109, 111, 117, 110, 116]⟩ : ByteArray), (⟨#[113, 117, 97, 110, 116, 105, 116, 121]⟩ : ByteArray), (⟨#[97, 98, 111, 118, 101]⟩ : ByteArray), (⟨#[102, 108, 111, 111, 114]⟩ : ByteArray), (⟨#[99, 101, 105, 108]⟩ : ByteArray), (⟨#[117, 112]⟩ : ByteArray), (⟨#[100, 111, 119, 110]⟩ : ByteArray), (⟨#[101, 118, 101, 110]⟩ : ByteArray)] : List ByteArray)) 0
def tollbookref12_Word.f (k : Nat) (a0 : ByteArray) : Option (Bool) := if (a0.size : Int) > 0 then (if (a0.size : Int) ≤ 24 then ((tollbookref12_part.f k a0).bind fun t311 => (if t311 = (a0.size : Int) then ((tollbookref12_kept.f k a0).bind fun t312 => (some (!t312))) else (some false))) else (some false)) else (some false)
def tollbookref06_Check.f (a0_0 : Int) (a0_1 : Int) : Option (Int) := if a0_1 < 0 then (some 60) else (if a0_1 > 9 then (some 60) else (if a0_1 > 0 then (if (Int.tmod a0_0 10) = 0 then (some 60) else (some 0)) else (some 0)))
end Go.Proofs.YtcljnjnlafkieaaGreatDoorR.PPLA
