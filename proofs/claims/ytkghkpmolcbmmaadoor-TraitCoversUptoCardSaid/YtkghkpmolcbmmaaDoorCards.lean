/-
  DERIVED. GIVEN WITH THE SEED: THE CARDS: each row of YtkghkpmolcbmmaaDoorRows.lean that lists a variable, with what it lists TIED to the program's text (the seventh form; the later family's looks); each row that meets fmt, with fmt's text TOLD by the authors' own Lean function (tested against real Go, not proved from fmt's source: count such statements apart). THE CARD IS WHAT COUNTS. Prove the row's statement (the work); the ties are given (YtkghkpmolcbmmaaDoorTie.lean); close each card by the builder's one call (the guide's Derived/Test/ToyasCard.lean, 'card_holds'). Laid BY PROGRAM, IN A SANDBOX (cutbox-door.mjs). By AI agents, Wed Nov 11 2026. No macro, syntax, notation, axiom, sorry.
-/
import Derived.Test.YtkghkpmolcbmmaaDoorRows
import GoSem.ClaimSeven
namespace Go.Proofs.YtkghkpmolcbmmaaDoor
namespace Rows

/-- THE TIED CARD OF 'tollbooklaw13.TraitCovers'. -/
def traitCoversCard : Claim7 := { stood := { row := traitCoversRow, standIns := [], harness := (true, "385b0e534c7f11447fdaa88ecaff6550089649b1e64eb5fee93f01dfb88eaf96"), looks := false }, kinds := [], alts := [], laidByText := true, laidKinds := [.data, .listed, .data, .pinned], laidTests := true, laidLooks := .later }
def TraitCoversCardSaid : Prop := Claim7.holds Tryd.pinned (.plain (OpenSpec.ofChange traitCoversSpec)) traitCoversCard

/-- THE SECOND FORM's CARD OF 'tollbooklaw13.TraitCovers'. -/
def traitCoversUptoCard : Claim7 := { stood := { row := traitCoversUptoRow, standIns := [], harness := (true, "385b0e534c7f11447fdaa88ecaff6550089649b1e64eb5fee93f01dfb88eaf96"), looks := false }, kinds := [], alts := [], laidByText := true, laidKinds := [.data, .listed, .data, .pinned], laidTests := true, laidLooks := .later }
def TraitCoversUptoCardSaid : Prop := Claim7.holds Tryd.pinned (.plain (OpenSpec.upto traitCoversSpec)) traitCoversUptoCard
end Rows
end Go.Proofs.YtkghkpmolcbmmaaDoor
