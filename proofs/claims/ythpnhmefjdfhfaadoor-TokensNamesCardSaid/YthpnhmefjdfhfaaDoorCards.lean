/-
  DERIVED. GIVEN WITH THE SEED: THE CARDS: each row of YthpnhmefjdfhfaaDoorRows.lean that lists a variable, with what it lists TIED to the program's text (the seventh form; the later family's looks); each row that meets fmt, with fmt's text TOLD by the authors' own Lean function (tested against real Go, not proved from fmt's source: count such statements apart). THE CARD IS WHAT COUNTS. Prove the row's statement (the work); the ties are given (YthpnhmefjdfhfaaDoorTie.lean); close each card by the builder's one call (the guide's Derived/Test/ToyasCard.lean, 'card_holds'). Laid BY PROGRAM, IN A SANDBOX (cutbox-door.mjs). By AI agents, Wed Nov 11 2026. No macro, syntax, notation, axiom, sorry.
-/
import Derived.Test.YthpnhmefjdfhfaaDoorRows
import GoSem.ClaimSeven
namespace Go.Proofs.YthpnhmefjdfhfaaDoor
namespace Rows

/-- THE TIED CARD OF 'tollbooklaw12.TokensNames'. -/
def tokensNamesCard : Claim7 := { stood := { row := tokensNamesRow, standIns := [], harness := (true, "ce0c5f12e035c8d8dcec53a842a94e04da30634f63255b22c7e900c51f00a01b"), looks := false }, kinds := [], alts := [], laidByText := true, laidKinds := [.listed, .data], laidTests := true, laidLooks := .later }
def TokensNamesCardSaid : Prop := Claim7.holds Tryd.pinned (.plain (OpenSpec.ofChange tokensNamesSpec)) tokensNamesCard

/-- THE SECOND FORM's CARD OF 'tollbooklaw12.TokensNames'. -/
def tokensNamesUptoCard : Claim7 := { stood := { row := tokensNamesUptoRow, standIns := [], harness := (true, "ce0c5f12e035c8d8dcec53a842a94e04da30634f63255b22c7e900c51f00a01b"), looks := false }, kinds := [], alts := [], laidByText := true, laidKinds := [.listed, .data], laidTests := true, laidLooks := .later }
def TokensNamesUptoCardSaid : Prop := Claim7.holds Tryd.pinned (.plain (OpenSpec.upto tokensNamesSpec)) tokensNamesUptoCard
end Rows
end Go.Proofs.YthpnhmefjdfhfaaDoor
