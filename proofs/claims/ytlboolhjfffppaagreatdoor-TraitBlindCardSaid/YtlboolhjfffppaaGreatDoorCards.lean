/-
  DERIVED. GIVEN WITH THE SEED: THE CARDS: each row of YtlboolhjfffppaaGreatDoorRows.lean that lists a variable, with what it lists TIED to the program's text (the seventh form; the later family's looks); each row that meets fmt, with fmt's text TOLD by the authors' own Lean function (tested against real Go, not proved from fmt's source: count such statements apart). THE CARD IS WHAT COUNTS. Prove the row's statement (the work); the ties are given (YtlboolhjfffppaaGreatDoorTie.lean); close each card by the builder's one call (the guide's Derived/Test/ToyasCard.lean, 'card_holds'). Laid BY PROGRAM, IN A SANDBOX (cutbox-door.mjs). By AI agents, Wed Nov 11 2026. No macro, syntax, notation, axiom, sorry.
-/
import Derived.Test.YtlboolhjfffppaaGreatDoorRows
import GoSem.ClaimSeven
namespace Go.Proofs.YtlboolhjfffppaaGreatDoor
namespace Rows

/-- THE TIED CARD OF 'tollbooklaw13.TraitHolds'. -/
def traitHoldsCard : Claim7 := { stood := { row := traitHoldsRow, standIns := [], harness := (true, "1a57d076ba56591af6ac6b9faec9a13830e332c9616364f337e9a6acc1d2cef6"), looks := false }, kinds := [], alts := [], laidByText := true, laidKinds := [.data, .listed, .data, .pinned], laidTests := true, laidLooks := .later }
def TraitHoldsCardSaid : Prop := Claim7.holds Tryz.pinned (.plain (OpenSpec.ofChange traitHoldsSpec)) traitHoldsCard

/-- THE TIED CARD OF 'tollbooklaw13.TraitBlind'. -/
def traitBlindCard : Claim7 := { stood := { row := traitBlindRow, standIns := [], harness := (true, "1a57d076ba56591af6ac6b9faec9a13830e332c9616364f337e9a6acc1d2cef6"), looks := false }, kinds := [], alts := [], laidByText := true, laidKinds := [.data, .listed, .data, .pinned], laidTests := true, laidLooks := .later }
def TraitBlindCardSaid : Prop := Claim7.holds Tryz.pinned (.plain (OpenSpec.ofChange traitBlindSpec)) traitBlindCard

/-- THE SECOND FORM's CARD OF 'tollbooklaw13.TraitHolds'. -/
def traitHoldsUptoCard : Claim7 := { stood := { row := traitHoldsUptoRow, standIns := [], harness := (true, "1a57d076ba56591af6ac6b9faec9a13830e332c9616364f337e9a6acc1d2cef6"), looks := false }, kinds := [], alts := [], laidByText := true, laidKinds := [.data, .listed, .data, .pinned], laidTests := true, laidLooks := .later }
def TraitHoldsUptoCardSaid : Prop := Claim7.holds Tryz.pinned (.plain (OpenSpec.upto traitHoldsSpec)) traitHoldsUptoCard

/-- THE SECOND FORM's CARD OF 'tollbooklaw13.TraitBlind'. -/
def traitBlindUptoCard : Claim7 := { stood := { row := traitBlindUptoRow, standIns := [], harness := (true, "1a57d076ba56591af6ac6b9faec9a13830e332c9616364f337e9a6acc1d2cef6"), looks := false }, kinds := [], alts := [], laidByText := true, laidKinds := [.data, .listed, .data, .pinned], laidTests := true, laidLooks := .later }
def TraitBlindUptoCardSaid : Prop := Claim7.holds Tryz.pinned (.plain (OpenSpec.upto traitBlindSpec)) traitBlindUptoCard
end Rows
end Go.Proofs.YtlboolhjfffppaaGreatDoor
