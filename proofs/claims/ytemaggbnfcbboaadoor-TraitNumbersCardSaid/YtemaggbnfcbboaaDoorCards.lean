/-
  DERIVED. GIVEN WITH THE SEED: THE CARDS: each row of YtemaggbnfcbboaaDoorRows.lean that lists a variable, with what it lists TIED to the program's text (the seventh form; the later family's looks); each row that meets fmt, with fmt's text TOLD by the authors' own Lean function (tested against real Go, not proved from fmt's source: count such statements apart). THE CARD IS WHAT COUNTS. Prove the row's statement (the work); the ties are given (YtemaggbnfcbboaaDoorTie.lean); close each card by the builder's one call (the guide's Derived/Test/ToyasCard.lean, 'card_holds'). Laid BY PROGRAM, IN A SANDBOX (cutbox-door.mjs). By AI agents, Wed Nov 11 2026. No macro, syntax, notation, axiom, sorry.
-/
import Derived.Test.YtemaggbnfcbboaaDoorRows
import GoSem.ClaimSeven
namespace Go.Proofs.YtemaggbnfcbboaaDoor
namespace Rows

/-- THE TIED CARD OF 'tollbooklaw13.TraitNumbers'. -/
def traitNumbersCard : Claim7 := { stood := { row := traitNumbersRow, standIns := [], harness := (true, "3c6bf283be6bf06737fff1c82fc71157f83f243639c28c8e0f4befef1d9ba75a"), looks := false }, kinds := [], alts := [], laidByText := true, laidKinds := [.data, .listed, .data, .pinned], laidTests := true, laidLooks := .later }
def TraitNumbersCardSaid : Prop := Claim7.holds Tryd.pinned (.plain (OpenSpec.ofChange traitNumbersSpec)) traitNumbersCard

/-- THE SECOND FORM's CARD OF 'tollbooklaw13.TraitNumbers'. -/
def traitNumbersUptoCard : Claim7 := { stood := { row := traitNumbersUptoRow, standIns := [], harness := (true, "3c6bf283be6bf06737fff1c82fc71157f83f243639c28c8e0f4befef1d9ba75a"), looks := false }, kinds := [], alts := [], laidByText := true, laidKinds := [.data, .listed, .data, .pinned], laidTests := true, laidLooks := .later }
def TraitNumbersUptoCardSaid : Prop := Claim7.holds Tryd.pinned (.plain (OpenSpec.upto traitNumbersSpec)) traitNumbersUptoCard
end Rows
end Go.Proofs.YtemaggbnfcbboaaDoor
