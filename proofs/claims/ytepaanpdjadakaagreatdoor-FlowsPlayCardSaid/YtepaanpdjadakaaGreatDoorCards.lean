/-
  DERIVED. GIVEN WITH THE SEED: THE CARDS: each row of YtepaanpdjadakaaGreatDoorRows.lean that lists a variable, with what it lists TIED to the program's text (the seventh form; the later family's looks); each row that meets fmt, with fmt's text TOLD by the authors' own Lean function (tested against real Go, not proved from fmt's source: count such statements apart). THE CARD IS WHAT COUNTS. Prove the row's statement (the work); the ties are given (YtepaanpdjadakaaGreatDoorTie.lean); close each card by the builder's one call (the guide's Derived/Test/ToyasCard.lean, 'card_holds'). Laid BY PROGRAM, IN A SANDBOX (cutbox-door.mjs). By AI agents, Wed Nov 11 2026. No macro, syntax, notation, axiom, sorry.
-/
import Derived.Test.YtepaanpdjadakaaGreatDoorRows
import GoSem.ClaimSeven
namespace Go.Proofs.YtepaanpdjadakaaGreatDoor
namespace Rows

/-- THE TIED CARD OF 'stockadelaw26.FlowsPlay'. -/
def flowsPlayCard : Claim7 := { stood := { row := flowsPlayRow, standIns := [], harness := (true, "28e7def0bdf83cfbfec2ada42a29bc40eec3afd22f69630c11f106815c509f1f"), looks := true }, kinds := [], alts := [], laidByText := true, laidKinds := [.handle], laidTests := true, laidLooks := .later }
def FlowsPlayCardSaid : Prop := Claim7.holds Tryz.pinned (.plain (OpenSpec.ofChange flowsPlaySpec)) flowsPlayCard

/-- THE SECOND FORM's CARD OF 'stockadelaw26.FlowsPlay'. -/
def flowsPlayUptoCard : Claim7 := { stood := { row := flowsPlayUptoRow, standIns := [], harness := (true, "28e7def0bdf83cfbfec2ada42a29bc40eec3afd22f69630c11f106815c509f1f"), looks := true }, kinds := [], alts := [], laidByText := true, laidKinds := [.handle], laidTests := true, laidLooks := .later }
def FlowsPlayUptoCardSaid : Prop := Claim7.holds Tryz.pinned (.plain (OpenSpec.upto flowsPlaySpec)) flowsPlayUptoCard
end Rows
end Go.Proofs.YtepaanpdjadakaaGreatDoor
