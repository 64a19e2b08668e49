/-
  DERIVED. GIVEN WITH THE SEED: THE CARDS: each row of YtlboolhjfffppaaDoorRows.lean that lists a variable, with what it lists TIED to the program's text (the seventh form; the later family's looks); each row that meets fmt, with fmt's text TOLD by the authors' own Lean function (tested against real Go, not proved from fmt's source: count such statements apart). THE CARD IS WHAT COUNTS. Prove the row's statement (the work); the ties are given (YtlboolhjfffppaaDoorTie.lean); close each card by the builder's one call (the guide's Derived/Test/ToyasCard.lean, 'card_holds'). Laid BY PROGRAM, IN A SANDBOX (cutbox-door.mjs). By AI agents, Wed Nov 11 2026. No macro, syntax, notation, axiom, sorry.
-/
import Derived.Test.YtlboolhjfffppaaDoorRows
import GoSem.ClaimSeven
namespace Go.Proofs.YtlboolhjfffppaaDoor
namespace Rows

/-- THE TIED CARD OF 'tollbooklaw13.TraitTables'. -/
def traitTablesCard : Claim7 := { stood := { row := traitTablesRow, standIns := [], harness := (true, "6837b88c63c8b003fde12ea75247c3f4ed9cc30a141be0dfe9144d828ffc1f53"), looks := false }, kinds := [], alts := [], laidByText := true, laidKinds := [.data, .listed, .data, .pinned], laidTests := true, laidLooks := .later }
def TraitTablesCardSaid : Prop := Claim7.holds Tryd.pinned (.plain (OpenSpec.ofChange traitTablesSpec)) traitTablesCard

/-- THE SECOND FORM's CARD OF 'tollbooklaw13.TraitTables'. -/
def traitTablesUptoCard : Claim7 := { stood := { row := traitTablesUptoRow, standIns := [], harness := (true, "6837b88c63c8b003fde12ea75247c3f4ed9cc30a141be0dfe9144d828ffc1f53"), looks := false }, kinds := [], alts := [], laidByText := true, laidKinds := [.data, .listed, .data, .pinned], laidTests := true, laidLooks := .later }
def TraitTablesUptoCardSaid : Prop := Claim7.holds Tryd.pinned (.plain (OpenSpec.upto traitTablesSpec)) traitTablesUptoCard
end Rows
end Go.Proofs.YtlboolhjfffppaaDoor
