/- The numbers of the layer of traits: no input: the kernel reckons the printed function. -/
import Derived.Test.YtemaggbnfcbboaaDoorPALLx12
namespace Go.Proofs.YtemaggbnfcbboaaDoor.Tr
open Go.RowKit Go.Proofs.YtemaggbnfcbboaaDoor.PALL Go.Proofs.YtemaggbnfcbboaaDoorW.PrintWords Go.Proofs.YtemaggbnfcbboaaDoorW.PrintLast
theorem TraitNumbers_at : tollbooklaw13_TraitNumbers.f 100 = some true := by decide +kernel
theorem TraitNumbers_some : ∃ k, tollbooklaw13_TraitNumbers.f k = some true := ⟨100, TraitNumbers_at⟩
end Go.Proofs.YtemaggbnfcbboaaDoor.Tr
