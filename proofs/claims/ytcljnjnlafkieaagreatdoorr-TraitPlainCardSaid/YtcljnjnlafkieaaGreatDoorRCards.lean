/-
  DERIVED. GIVEN WITH THE SEED: THE CARDS: each row of YtcljnjnlafkieaaGreatDoorRRows.lean that lists a variable, with what it lists TIED to the program's text (the seventh form; the later family's looks); each row that meets fmt, with fmt's text TOLD by the authors' own Lean function (tested against real Go, not proved from fmt's source: count such statements apart). THE CARD IS WHAT COUNTS. Prove the row's statement (the work); the ties are given (YtcljnjnlafkieaaGreatDoorRTie.lean); close each card by the builder's one call (the guide's Derived/Test/ToyasCard.lean, 'card_holds'). Laid BY PROGRAM, IN A SANDBOX (cutbox-door.mjs). By AI agents, Wed Nov 11 2026. No macro, syntax, notation, axiom, sorry.
-/
import Derived.Test.YtcljnjnlafkieaaGreatDoorRRows
import GoSem.ClaimSeven
namespace Go.Proofs.YtcljnjnlafkieaaGreatDoorR
namespace Rows

/-- THE TIED CARD OF 'tollbooklaw13.TraitPlains'. -/
def traitPlainsCard : Claim7 := { stood := { row := traitPlainsRow, standIns := [], harness := (true, "010f0868ced3e68e565bf38de0fef221f433514363ec5e76497ae04c6bd0481c"), looks := false }, kinds := [], alts := [], laidByText := true, laidKinds := [.data, .listed, .data, .pinned], laidTests := true, laidLooks := .later }
def TraitPlainsCardSaid : Prop := Claim7.holds Tryz.pinned (.plain (OpenSpec.ofChange traitPlainsSpec)) traitPlainsCard

/-- THE TIED CARD OF 'tollbooklaw13.TraitPlain'. -/
def traitPlainCard : Claim7 := { stood := { row := traitPlainRow, standIns := [], harness := (true, "010f0868ced3e68e565bf38de0fef221f433514363ec5e76497ae04c6bd0481c"), looks := false }, kinds := [], alts := [], laidByText := true, laidKinds := [.data, .listed, .data, .pinned], laidTests := true, laidLooks := .later }
def TraitPlainCardSaid : Prop := Claim7.holds Tryz.pinned (.plain (OpenSpec.ofChange traitPlainSpec)) traitPlainCard

/-- THE SECOND FORM's CARD OF 'tollbooklaw13.TraitPlains'. -/
def traitPlainsUptoCard : Claim7 := { stood := { row := traitPlainsUptoRow, standIns := [], harness := (true, "010f0868ced3e68e565bf38de0fef221f433514363ec5e76497ae04c6bd0481c"), looks := false }, kinds := [], alts := [], laidByText := true, laidKinds := [.data, .listed, .data, .pinned], laidTests := true, laidLooks := .later }
def TraitPlainsUptoCardSaid : Prop := Claim7.holds Tryz.pinned (.plain (OpenSpec.upto traitPlainsSpec)) traitPlainsUptoCard

/-- THE SECOND FORM's CARD OF 'tollbooklaw13.TraitPlain'. -/
def traitPlainUptoCard : Claim7 := { stood := { row := traitPlainUptoRow, standIns := [], harness := (true, "010f0868ced3e68e565bf38de0fef221f433514363ec5e76497ae04c6bd0481c"), looks := false }, kinds := [], alts := [], laidByText := true, laidKinds := [.data, .listed, .data, .pinned], laidTests := true, laidLooks := .later }
def TraitPlainUptoCardSaid : Prop := Claim7.holds Tryz.pinned (.plain (OpenSpec.upto traitPlainSpec)) traitPlainUptoCard
end Rows
end Go.Proofs.YtcljnjnlafkieaaGreatDoorR
