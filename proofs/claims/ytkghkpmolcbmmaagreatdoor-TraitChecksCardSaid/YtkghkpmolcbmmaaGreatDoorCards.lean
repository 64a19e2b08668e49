/-
  DERIVED. GIVEN WITH THE SEED: THE CARDS: each row of YtkghkpmolcbmmaaGreatDoorRows.lean that lists a variable, with what it lists TIED to the program's text (the seventh form; the later family's looks); each row that meets fmt, with fmt's text TOLD by the authors' own Lean function (tested against real Go, not proved from fmt's source: count such statements apart). THE CARD IS WHAT COUNTS. Prove the row's statement (the work); the ties are given (YtkghkpmolcbmmaaGreatDoorTie.lean); close each card by the builder's one call (the guide's Derived/Test/ToyasCard.lean, 'card_holds'). Laid BY PROGRAM, IN A SANDBOX (cutbox-door.mjs). By AI agents, Wed Nov 11 2026. No macro, syntax, notation, axiom, sorry.
-/
import Derived.Test.YtkghkpmolcbmmaaGreatDoorRows
import GoSem.ClaimSeven
namespace Go.Proofs.YtkghkpmolcbmmaaGreatDoor
namespace Rows

/-- THE TIED CARD OF 'tollbooklaw13.TraitClasses'. -/
def traitClassesCard : Claim7 := { stood := { row := traitClassesRow, standIns := [], harness := (true, "6a29ccb0227d6fcdf60bdbe75cf07edd13b3beca602250b5bd9a342572aebf6e"), looks := false }, kinds := [], alts := [], laidByText := true, laidKinds := [.data, .listed, .data, .pinned], laidTests := true, laidLooks := .later }
def TraitClassesCardSaid : Prop := Claim7.holds Tryz.pinned (.plain (OpenSpec.ofChange traitClassesSpec)) traitClassesCard

/-- THE TIED CARD OF 'tollbooklaw13.TraitChecks'. -/
def traitChecksCard : Claim7 := { stood := { row := traitChecksRow, standIns := [], harness := (true, "6a29ccb0227d6fcdf60bdbe75cf07edd13b3beca602250b5bd9a342572aebf6e"), looks := false }, kinds := [], alts := [], laidByText := true, laidKinds := [.data, .listed, .data, .pinned], laidTests := true, laidLooks := .later }
def TraitChecksCardSaid : Prop := Claim7.holds Tryz.pinned (.plain (OpenSpec.ofChange traitChecksSpec)) traitChecksCard

/-- THE SECOND FORM's CARD OF 'tollbooklaw13.TraitClasses'. -/
def traitClassesUptoCard : Claim7 := { stood := { row := traitClassesUptoRow, standIns := [], harness := (true, "6a29ccb0227d6fcdf60bdbe75cf07edd13b3beca602250b5bd9a342572aebf6e"), looks := false }, kinds := [], alts := [], laidByText := true, laidKinds := [.data, .listed, .data, .pinned], laidTests := true, laidLooks := .later }
def TraitClassesUptoCardSaid : Prop := Claim7.holds Tryz.pinned (.plain (OpenSpec.upto traitClassesSpec)) traitClassesUptoCard

/-- THE SECOND FORM's CARD OF 'tollbooklaw13.TraitChecks'. -/
def traitChecksUptoCard : Claim7 := { stood := { row := traitChecksUptoRow, standIns := [], harness := (true, "6a29ccb0227d6fcdf60bdbe75cf07edd13b3beca602250b5bd9a342572aebf6e"), looks := false }, kinds := [], alts := [], laidByText := true, laidKinds := [.data, .listed, .data, .pinned], laidTests := true, laidLooks := .later }
def TraitChecksUptoCardSaid : Prop := Claim7.holds Tryz.pinned (.plain (OpenSpec.upto traitChecksSpec)) traitChecksUptoCard
end Rows
end Go.Proofs.YtkghkpmolcbmmaaGreatDoor
