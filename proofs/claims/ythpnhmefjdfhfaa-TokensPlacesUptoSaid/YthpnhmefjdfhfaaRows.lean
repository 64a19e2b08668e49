/-
  No cell of these rows narrows 'for every input' (looked for: loops, veiled, ifaces, maps, wideKeys, modest, calm, conditions, laid).
  DERIVED. THE GIVEN ROWS OF THIS SEAT. 4 by the template 'for every input the law returns true; each argument reads behind the call as it read before'; 0 by the template 'total and deterministic' (their statements: YthpnhmefjdfhfaaTotals.lean).
  GIVEN WITH THE SEED: the statements are not yours to turn. If you find one false, say at which input.
  Laid BY PROGRAM, IN A SANDBOX (cutbox-rows.mjs): the forced cells as the released guide's own fill.sh prints them over the translation 6734fcdbc7d508bb… (all of the seat's roots in one cut). By AI agents, Wed Nov 11 2026. No macro, syntax, notation, axiom, sorry.
-/
import Derived.Test.YthpnhmefjdfhfaaChecked
import GoSem.Claim
import GoSem.ClaimJoined
import GoSem.ClaimMapViews
import Derived.JoinedTies
import Derived.KernelRfl
namespace Go.Proofs.Ythpnhmefjdfhfaa
/- THE CELL 'sum', in the pinned program and in every row, IS THE sha256 OF THE DUMP (.gsa) THAT YthpnhmefjdfhfaaProg.lean LOADS. Nothing in Lean hashes anything: it is a label: what it is worth is what the hold of that sum in a sandbox is worth. -/
noncomputable def Try.pinned : Pinned := { name := "ythpnhmefjdfhfaa", sum := "6734fcdbc7d508bb59a2f43dfe64991ace807593c1a261fa8a0a0133982975f9", checked := Try.checked }
namespace Rows
def none {H : Type} : Left H := { results := [], args := [] }

/-- 'tollbooklaw12.TokensPlaces': WHATEVER THE INPUT: true; the input reads as it did. -/
def tokensPlacesSpec : ChangeSpec := { name := "tokensPlaces", fn := fun _ => fun
  | [d] => { results := [.lit (.bool true)], args := [d] }
  | _ => none }
def tokensPlacesRow : OpenClaim := { program := "ythpnhmefjdfhfaa", sum := "6734fcdbc7d508bb59a2f43dfe64991ace807593c1a261fa8a0a0133982975f9", func := "tollbook/tollbooklaw12.TokensPlaces", spec := "tokensPlaces", apart := false }
def TokensPlacesSaid : Prop := tokensPlacesRow.holds Try.pinned (OpenSpec.ofChange tokensPlacesSpec)

/-- ITS FALSE NEIGHBOUR: 'it returns false'. Refute it at one input. -/
def tokensPlacesWrong : ChangeSpec := { name := "tokensPlaces", fn := fun _ => fun
  | [d] => { results := [.lit (.bool false)], args := [d] }
  | _ => none }
def TokensPlacesWrongFalsely : Prop := tokensPlacesRow.holds Try.pinned (OpenSpec.ofChange tokensPlacesWrong)

/-- 'tollbooklaw12.TokensBack': WHATEVER THE INPUT: true; the input reads as it did. -/
def tokensBackSpec : ChangeSpec := { name := "tokensBack", fn := fun _ => fun
  | [d] => { results := [.lit (.bool true)], args := [d] }
  | _ => none }
def tokensBackRow : OpenClaim := { program := "ythpnhmefjdfhfaa", sum := "6734fcdbc7d508bb59a2f43dfe64991ace807593c1a261fa8a0a0133982975f9", func := "tollbook/tollbooklaw12.TokensBack", spec := "tokensBack", apart := false }
def TokensBackSaid : Prop := tokensBackRow.holds Try.pinned (OpenSpec.ofChange tokensBackSpec)

/-- ITS FALSE NEIGHBOUR: 'it returns false'. Refute it at one input. -/
def tokensBackWrong : ChangeSpec := { name := "tokensBack", fn := fun _ => fun
  | [d] => { results := [.lit (.bool false)], args := [d] }
  | _ => none }
def TokensBackWrongFalsely : Prop := tokensBackRow.holds Try.pinned (OpenSpec.ofChange tokensBackWrong)

/-- 'tollbooklaw12.TokensRemarks': WHATEVER THE INPUT: true; the input reads as it did. -/
def tokensRemarksSpec : ChangeSpec := { name := "tokensRemarks", fn := fun _ => fun
  | [d1, d2] => { results := [.lit (.bool true)], args := [d1, d2] }
  | _ => none }
def tokensRemarksRow : OpenClaim := { program := "ythpnhmefjdfhfaa", sum := "6734fcdbc7d508bb59a2f43dfe64991ace807593c1a261fa8a0a0133982975f9", func := "tollbook/tollbooklaw12.TokensRemarks", spec := "tokensRemarks", apart := false }
def TokensRemarksSaid : Prop := tokensRemarksRow.holds Try.pinned (OpenSpec.ofChange tokensRemarksSpec)

/-- ITS FALSE NEIGHBOUR: 'it returns false'. Refute it at one input. -/
def tokensRemarksWrong : ChangeSpec := { name := "tokensRemarks", fn := fun _ => fun
  | [d1, d2] => { results := [.lit (.bool false)], args := [d1, d2] }
  | _ => none }
def TokensRemarksWrongFalsely : Prop := tokensRemarksRow.holds Try.pinned (OpenSpec.ofChange tokensRemarksWrong)

/-- 'tollbooklaw12.TokensRefused': WHATEVER THE INPUT: true; the input reads as it did. -/
def tokensRefusedSpec : ChangeSpec := { name := "tokensRefused", fn := fun _ => fun
  | [d1, d2] => { results := [.lit (.bool true)], args := [d1, d2] }
  | _ => none }
def tokensRefusedRow : OpenClaim := { program := "ythpnhmefjdfhfaa", sum := "6734fcdbc7d508bb59a2f43dfe64991ace807593c1a261fa8a0a0133982975f9", func := "tollbook/tollbooklaw12.TokensRefused", spec := "tokensRefused", apart := false }
def TokensRefusedSaid : Prop := tokensRefusedRow.holds Try.pinned (OpenSpec.ofChange tokensRefusedSpec)

/-- ITS FALSE NEIGHBOUR: 'it returns false'. Refute it at one input. -/
def tokensRefusedWrong : ChangeSpec := { name := "tokensRefused", fn := fun _ => fun
  | [d1, d2] => { results := [.lit (.bool false)], args := [d1, d2] }
  | _ => none }
def TokensRefusedWrongFalsely : Prop := tokensRefusedRow.holds Try.pinned (OpenSpec.ofChange tokensRefusedWrong)

/- THE SECOND FORM. 'bulk': how many values and letters a reading holds, each counted each time it is reached (what is shared counts as often as it is met; a slice's spare places count too). A statement '..UptoSaid' is the law's where the arguments, and the package variables that the reading takes, are together of bulk at most 1048576: NARROWER than '..Said'. Prove '..Said' where nothing that the law and all that it calls make is longer than what came in: it says more and counts as full. Else prove '..UptoSaid'. A law counts once. -/
mutual
def uptoBulk {H : Type} : DataW H → Nat
  | .lit (.string bytes) => bytes.length + 1
  | .lit _ => 1
  | .nil => 1
  | .ptr d => uptoBulk d + 1
  | .slice elems spare => uptoBulkAll elems + uptoBulkAll spare + 1
  | .agg parts => uptoBulkAll parts + 1
  | .iface _ d => uptoBulk d + 1
  | .map entries => uptoBulkEntries entries + 1
  | .held _ => 1
def uptoBulkAll {H : Type} : List (DataW H) → Nat
  | [] => 0
  | d :: r => uptoBulk d + uptoBulkAll r
def uptoBulkEntries {H : Type} : List (Lit × DataW H) → Nat
  | [] => 0
  | x :: r => uptoBulkEntry x + uptoBulkEntries r
def uptoBulkEntry {H : Type} : Lit × DataW H → Nat
  | (.string bytes, d) => bytes.length + uptoBulk d + 1
  | (_, d) => uptoBulk d + 1
 end
def uptoSmall : (H : Type) → List (DataW H) → Bool := fun _ ds => decide (uptoBulkAll ds ≤ 1048576)
def OpenSpec.upto (s : _root_.Go.ChangeSpec) : _root_.Go.OpenSpec := { _root_.Go.OpenSpec.ofChange s with cond := some uptoSmall }

/-- 'tollbooklaw12.TokensPlaces', WHERE WHAT IT READS IS OF BULK AT MOST 1048576: true; the input reads as it did. -/
def tokensPlacesUptoRow : OpenClaim := { program := "ythpnhmefjdfhfaa", sum := "6734fcdbc7d508bb59a2f43dfe64991ace807593c1a261fa8a0a0133982975f9", func := "tollbook/tollbooklaw12.TokensPlaces", spec := "tokensPlaces", apart := false, narrowed := true }
def TokensPlacesUptoSaid : Prop := tokensPlacesUptoRow.holds Try.pinned (OpenSpec.upto tokensPlacesSpec)

/-- 'tollbooklaw12.TokensBack', WHERE WHAT IT READS IS OF BULK AT MOST 1048576: true; the input reads as it did. -/
def tokensBackUptoRow : OpenClaim := { program := "ythpnhmefjdfhfaa", sum := "6734fcdbc7d508bb59a2f43dfe64991ace807593c1a261fa8a0a0133982975f9", func := "tollbook/tollbooklaw12.TokensBack", spec := "tokensBack", apart := false, narrowed := true }
def TokensBackUptoSaid : Prop := tokensBackUptoRow.holds Try.pinned (OpenSpec.upto tokensBackSpec)

/-- 'tollbooklaw12.TokensRemarks', WHERE WHAT IT READS IS OF BULK AT MOST 1048576: true; the input reads as it did. -/
def tokensRemarksUptoRow : OpenClaim := { program := "ythpnhmefjdfhfaa", sum := "6734fcdbc7d508bb59a2f43dfe64991ace807593c1a261fa8a0a0133982975f9", func := "tollbook/tollbooklaw12.TokensRemarks", spec := "tokensRemarks", apart := false, narrowed := true }
def TokensRemarksUptoSaid : Prop := tokensRemarksUptoRow.holds Try.pinned (OpenSpec.upto tokensRemarksSpec)

/-- 'tollbooklaw12.TokensRefused', WHERE WHAT IT READS IS OF BULK AT MOST 1048576: true; the input reads as it did. -/
def tokensRefusedUptoRow : OpenClaim := { program := "ythpnhmefjdfhfaa", sum := "6734fcdbc7d508bb59a2f43dfe64991ace807593c1a261fa8a0a0133982975f9", func := "tollbook/tollbooklaw12.TokensRefused", spec := "tokensRefused", apart := false, narrowed := true }
def TokensRefusedUptoSaid : Prop := tokensRefusedUptoRow.holds Try.pinned (OpenSpec.upto tokensRefusedSpec)

end Rows
end Go.Proofs.Ythpnhmefjdfhfaa
