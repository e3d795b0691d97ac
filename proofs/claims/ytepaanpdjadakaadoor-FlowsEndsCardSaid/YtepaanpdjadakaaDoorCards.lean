/-
  DERIVED. GIVEN WITH THE SEED: THE CARDS: each row of YtepaanpdjadakaaDoorRows.lean that lists a variable, with what it lists TIED to the program's text (the seventh form; the later family's looks); each row that meets fmt, with fmt's text TOLD by the authors' own Lean function (tested against real Go, not proved from fmt's source: count such statements apart). THE CARD IS WHAT COUNTS. Prove the row's statement (the work); the ties are given (YtepaanpdjadakaaDoorTie.lean); close each card by the builder's one call (the guide's Derived/Test/ToyasCard.lean, 'card_holds'). Laid BY PROGRAM, IN A SANDBOX (cutbox-door.mjs). By AI agents, Wed Nov 11 2026. No macro, syntax, notation, axiom, sorry.
-/
import Derived.Test.YtepaanpdjadakaaDoorRows
import GoSem.ClaimSeven
namespace Go.Proofs.YtepaanpdjadakaaDoor
namespace Rows

/-- THE TIED CARD OF 'stockadelaw17.ExpiryDue'. -/
def expiryDueCard : Claim7 := { stood := { row := expiryDueRow, standIns := [], harness := (true, "ebc1f0ea2f50f5734604443344f37ca9cf9aa97b69db2981064198876b716a7d"), looks := true }, kinds := [], alts := [], laidByText := true, laidKinds := [.handle], laidTests := true, laidLooks := .later }
def ExpiryDueCardSaid : Prop := Claim7.holds Tryd.pinned (.plain (OpenSpec.ofChange expiryDueSpec)) expiryDueCard

/-- THE TIED CARD OF 'stockadelaw17.ExpiryNext'. -/
def expiryNextCard : Claim7 := { stood := { row := expiryNextRow, standIns := [], harness := (true, "ebc1f0ea2f50f5734604443344f37ca9cf9aa97b69db2981064198876b716a7d"), looks := true }, kinds := [], alts := [], laidByText := true, laidKinds := [.handle], laidTests := true, laidLooks := .later }
def ExpiryNextCardSaid : Prop := Claim7.holds Tryd.pinned (.plain (OpenSpec.ofChange expiryNextSpec)) expiryNextCard

/-- THE TIED CARD OF 'stockadelaw17.ExpiryMoves'. -/
def expiryMovesCard : Claim7 := { stood := { row := expiryMovesRow, standIns := [], harness := (true, "ebc1f0ea2f50f5734604443344f37ca9cf9aa97b69db2981064198876b716a7d"), looks := true }, kinds := [], alts := [], laidByText := true, laidKinds := [.handle], laidTests := true, laidLooks := .later }
def ExpiryMovesCardSaid : Prop := Claim7.holds Tryd.pinned (.plain (OpenSpec.ofChange expiryMovesSpec)) expiryMovesCard

/-- THE TIED CARD OF 'stockadelaw17.ExpiryPlays'. -/
def expiryPlaysCard : Claim7 := { stood := { row := expiryPlaysRow, standIns := [], harness := (true, "ebc1f0ea2f50f5734604443344f37ca9cf9aa97b69db2981064198876b716a7d"), looks := true }, kinds := [], alts := [], laidByText := true, laidKinds := [.handle], laidTests := true, laidLooks := .later }
def ExpiryPlaysCardSaid : Prop := Claim7.holds Tryd.pinned (.plain (OpenSpec.ofChange expiryPlaysSpec)) expiryPlaysCard

/-- THE TIED CARD OF 'stockadelaw17.ExpiryFull'. -/
def expiryFullCard : Claim7 := { stood := { row := expiryFullRow, standIns := [], harness := (true, "ebc1f0ea2f50f5734604443344f37ca9cf9aa97b69db2981064198876b716a7d"), looks := true }, kinds := [], alts := [], laidByText := true, laidKinds := [.handle], laidTests := true, laidLooks := .later }
def ExpiryFullCardSaid : Prop := Claim7.holds Tryd.pinned (.plain (OpenSpec.ofChange expiryFullSpec)) expiryFullCard

/-- THE TIED CARD OF 'stockadelaw23.PendingOnce'. -/
def pendingOnceCard : Claim7 := { stood := { row := pendingOnceRow, standIns := [], harness := (true, "ebc1f0ea2f50f5734604443344f37ca9cf9aa97b69db2981064198876b716a7d"), looks := true }, kinds := [], alts := [], laidByText := true, laidKinds := [.handle], laidTests := true, laidLooks := .later }
def PendingOnceCardSaid : Prop := Claim7.holds Tryd.pinned (.plain (OpenSpec.ofChange pendingOnceSpec)) pendingOnceCard

/-- THE TIED CARD OF 'stockadelaw23.PendingKeeps'. -/
def pendingKeepsCard : Claim7 := { stood := { row := pendingKeepsRow, standIns := [], harness := (true, "ebc1f0ea2f50f5734604443344f37ca9cf9aa97b69db2981064198876b716a7d"), looks := true }, kinds := [], alts := [], laidByText := true, laidKinds := [.handle], laidTests := true, laidLooks := .later }
def PendingKeepsCardSaid : Prop := Claim7.holds Tryd.pinned (.plain (OpenSpec.ofChange pendingKeepsSpec)) pendingKeepsCard

/-- THE TIED CARD OF 'stockadelaw23.PendingPlays'. -/
def pendingPlaysCard : Claim7 := { stood := { row := pendingPlaysRow, standIns := [], harness := (true, "ebc1f0ea2f50f5734604443344f37ca9cf9aa97b69db2981064198876b716a7d"), looks := true }, kinds := [], alts := [], laidByText := true, laidKinds := [.handle], laidTests := true, laidLooks := .later }
def PendingPlaysCardSaid : Prop := Claim7.holds Tryd.pinned (.plain (OpenSpec.ofChange pendingPlaysSpec)) pendingPlaysCard

/-- THE TIED CARD OF 'stockadelaw23.PendingFull'. -/
def pendingFullCard : Claim7 := { stood := { row := pendingFullRow, standIns := [], harness := (true, "ebc1f0ea2f50f5734604443344f37ca9cf9aa97b69db2981064198876b716a7d"), looks := true }, kinds := [], alts := [], laidByText := true, laidKinds := [.handle], laidTests := true, laidLooks := .later }
def PendingFullCardSaid : Prop := Claim7.holds Tryd.pinned (.plain (OpenSpec.ofChange pendingFullSpec)) pendingFullCard

/-- THE TIED CARD OF 'stockadelaw25.FactsLonger'. -/
def factsLongerCard : Claim7 := { stood := { row := factsLongerRow, standIns := [], harness := (true, "ebc1f0ea2f50f5734604443344f37ca9cf9aa97b69db2981064198876b716a7d"), looks := true }, kinds := [], alts := [], laidByText := true, laidKinds := [.handle], laidTests := true, laidLooks := .later }
def FactsLongerCardSaid : Prop := Claim7.holds Tryd.pinned (.plain (OpenSpec.ofChange factsLongerSpec)) factsLongerCard

/-- THE TIED CARD OF 'stockadelaw25.FactsPlay'. -/
def factsPlayCard : Claim7 := { stood := { row := factsPlayRow, standIns := [], harness := (true, "ebc1f0ea2f50f5734604443344f37ca9cf9aa97b69db2981064198876b716a7d"), looks := true }, kinds := [], alts := [], laidByText := true, laidKinds := [.handle], laidTests := true, laidLooks := .later }
def FactsPlayCardSaid : Prop := Claim7.holds Tryd.pinned (.plain (OpenSpec.ofChange factsPlaySpec)) factsPlayCard

/-- THE TIED CARD OF 'stockadelaw25.FactsFull'. -/
def factsFullCard : Claim7 := { stood := { row := factsFullRow, standIns := [], harness := (true, "ebc1f0ea2f50f5734604443344f37ca9cf9aa97b69db2981064198876b716a7d"), looks := true }, kinds := [], alts := [], laidByText := true, laidKinds := [.handle], laidTests := true, laidLooks := .later }
def FactsFullCardSaid : Prop := Claim7.holds Tryd.pinned (.plain (OpenSpec.ofChange factsFullSpec)) factsFullCard

/-- THE TIED CARD OF 'stockadelaw25.FactsOrder'. -/
def factsOrderCard : Claim7 := { stood := { row := factsOrderRow, standIns := [], harness := (true, "ebc1f0ea2f50f5734604443344f37ca9cf9aa97b69db2981064198876b716a7d"), looks := true }, kinds := [], alts := [], laidByText := true, laidKinds := [.handle], laidTests := true, laidLooks := .later }
def FactsOrderCardSaid : Prop := Claim7.holds Tryd.pinned (.plain (OpenSpec.ofChange factsOrderSpec)) factsOrderCard

/-- THE TIED CARD OF 'stockadelaw26.FlowsShakes'. -/
def flowsShakesCard : Claim7 := { stood := { row := flowsShakesRow, standIns := [], harness := (true, "ebc1f0ea2f50f5734604443344f37ca9cf9aa97b69db2981064198876b716a7d"), looks := true }, kinds := [], alts := [], laidByText := true, laidKinds := [.handle], laidTests := true, laidLooks := .later }
def FlowsShakesCardSaid : Prop := Claim7.holds Tryd.pinned (.plain (OpenSpec.ofChange flowsShakesSpec)) flowsShakesCard

/-- THE TIED CARD OF 'stockadelaw26.FlowsRefuse'. -/
def flowsRefuseCard : Claim7 := { stood := { row := flowsRefuseRow, standIns := [], harness := (true, "ebc1f0ea2f50f5734604443344f37ca9cf9aa97b69db2981064198876b716a7d"), looks := true }, kinds := [], alts := [], laidByText := true, laidKinds := [.handle], laidTests := true, laidLooks := .later }
def FlowsRefuseCardSaid : Prop := Claim7.holds Tryd.pinned (.plain (OpenSpec.ofChange flowsRefuseSpec)) flowsRefuseCard

/-- THE TIED CARD OF 'stockadelaw26.FlowsEnds'. -/
def flowsEndsCard : Claim7 := { stood := { row := flowsEndsRow, standIns := [], harness := (true, "ebc1f0ea2f50f5734604443344f37ca9cf9aa97b69db2981064198876b716a7d"), looks := true }, kinds := [], alts := [], laidByText := true, laidKinds := [.handle], laidTests := true, laidLooks := .later }
def FlowsEndsCardSaid : Prop := Claim7.holds Tryd.pinned (.plain (OpenSpec.ofChange flowsEndsSpec)) flowsEndsCard

/-- THE TIED CARD OF 'stockadelaw26.FlowsBegin'. -/
def flowsBeginCard : Claim7 := { stood := { row := flowsBeginRow, standIns := [], harness := (true, "ebc1f0ea2f50f5734604443344f37ca9cf9aa97b69db2981064198876b716a7d"), looks := true }, kinds := [], alts := [], laidByText := true, laidKinds := [.handle], laidTests := true, laidLooks := .later }
def FlowsBeginCardSaid : Prop := Claim7.holds Tryd.pinned (.plain (OpenSpec.ofChange flowsBeginSpec)) flowsBeginCard

/-- THE SECOND FORM's CARD OF 'stockadelaw17.ExpiryDue'. -/
def expiryDueUptoCard : Claim7 := { stood := { row := expiryDueUptoRow, standIns := [], harness := (true, "ebc1f0ea2f50f5734604443344f37ca9cf9aa97b69db2981064198876b716a7d"), looks := true }, kinds := [], alts := [], laidByText := true, laidKinds := [.handle], laidTests := true, laidLooks := .later }
def ExpiryDueUptoCardSaid : Prop := Claim7.holds Tryd.pinned (.plain (OpenSpec.upto expiryDueSpec)) expiryDueUptoCard

/-- THE SECOND FORM's CARD OF 'stockadelaw17.ExpiryNext'. -/
def expiryNextUptoCard : Claim7 := { stood := { row := expiryNextUptoRow, standIns := [], harness := (true, "ebc1f0ea2f50f5734604443344f37ca9cf9aa97b69db2981064198876b716a7d"), looks := true }, kinds := [], alts := [], laidByText := true, laidKinds := [.handle], laidTests := true, laidLooks := .later }
def ExpiryNextUptoCardSaid : Prop := Claim7.holds Tryd.pinned (.plain (OpenSpec.upto expiryNextSpec)) expiryNextUptoCard

/-- THE SECOND FORM's CARD OF 'stockadelaw17.ExpiryMoves'. -/
def expiryMovesUptoCard : Claim7 := { stood := { row := expiryMovesUptoRow, standIns := [], harness := (true, "ebc1f0ea2f50f5734604443344f37ca9cf9aa97b69db2981064198876b716a7d"), looks := true }, kinds := [], alts := [], laidByText := true, laidKinds := [.handle], laidTests := true, laidLooks := .later }
def ExpiryMovesUptoCardSaid : Prop := Claim7.holds Tryd.pinned (.plain (OpenSpec.upto expiryMovesSpec)) expiryMovesUptoCard

/-- THE SECOND FORM's CARD OF 'stockadelaw17.ExpiryPlays'. -/
def expiryPlaysUptoCard : Claim7 := { stood := { row := expiryPlaysUptoRow, standIns := [], harness := (true, "ebc1f0ea2f50f5734604443344f37ca9cf9aa97b69db2981064198876b716a7d"), looks := true }, kinds := [], alts := [], laidByText := true, laidKinds := [.handle], laidTests := true, laidLooks := .later }
def ExpiryPlaysUptoCardSaid : Prop := Claim7.holds Tryd.pinned (.plain (OpenSpec.upto expiryPlaysSpec)) expiryPlaysUptoCard

/-- THE SECOND FORM's CARD OF 'stockadelaw17.ExpiryFull'. -/
def expiryFullUptoCard : Claim7 := { stood := { row := expiryFullUptoRow, standIns := [], harness := (true, "ebc1f0ea2f50f5734604443344f37ca9cf9aa97b69db2981064198876b716a7d"), looks := true }, kinds := [], alts := [], laidByText := true, laidKinds := [.handle], laidTests := true, laidLooks := .later }
def ExpiryFullUptoCardSaid : Prop := Claim7.holds Tryd.pinned (.plain (OpenSpec.upto expiryFullSpec)) expiryFullUptoCard

/-- THE SECOND FORM's CARD OF 'stockadelaw23.PendingOnce'. -/
def pendingOnceUptoCard : Claim7 := { stood := { row := pendingOnceUptoRow, standIns := [], harness := (true, "ebc1f0ea2f50f5734604443344f37ca9cf9aa97b69db2981064198876b716a7d"), looks := true }, kinds := [], alts := [], laidByText := true, laidKinds := [.handle], laidTests := true, laidLooks := .later }
def PendingOnceUptoCardSaid : Prop := Claim7.holds Tryd.pinned (.plain (OpenSpec.upto pendingOnceSpec)) pendingOnceUptoCard

/-- THE SECOND FORM's CARD OF 'stockadelaw23.PendingKeeps'. -/
def pendingKeepsUptoCard : Claim7 := { stood := { row := pendingKeepsUptoRow, standIns := [], harness := (true, "ebc1f0ea2f50f5734604443344f37ca9cf9aa97b69db2981064198876b716a7d"), looks := true }, kinds := [], alts := [], laidByText := true, laidKinds := [.handle], laidTests := true, laidLooks := .later }
def PendingKeepsUptoCardSaid : Prop := Claim7.holds Tryd.pinned (.plain (OpenSpec.upto pendingKeepsSpec)) pendingKeepsUptoCard

/-- THE SECOND FORM's CARD OF 'stockadelaw23.PendingPlays'. -/
def pendingPlaysUptoCard : Claim7 := { stood := { row := pendingPlaysUptoRow, standIns := [], harness := (true, "ebc1f0ea2f50f5734604443344f37ca9cf9aa97b69db2981064198876b716a7d"), looks := true }, kinds := [], alts := [], laidByText := true, laidKinds := [.handle], laidTests := true, laidLooks := .later }
def PendingPlaysUptoCardSaid : Prop := Claim7.holds Tryd.pinned (.plain (OpenSpec.upto pendingPlaysSpec)) pendingPlaysUptoCard

/-- THE SECOND FORM's CARD OF 'stockadelaw23.PendingFull'. -/
def pendingFullUptoCard : Claim7 := { stood := { row := pendingFullUptoRow, standIns := [], harness := (true, "ebc1f0ea2f50f5734604443344f37ca9cf9aa97b69db2981064198876b716a7d"), looks := true }, kinds := [], alts := [], laidByText := true, laidKinds := [.handle], laidTests := true, laidLooks := .later }
def PendingFullUptoCardSaid : Prop := Claim7.holds Tryd.pinned (.plain (OpenSpec.upto pendingFullSpec)) pendingFullUptoCard

/-- THE SECOND FORM's CARD OF 'stockadelaw25.FactsLonger'. -/
def factsLongerUptoCard : Claim7 := { stood := { row := factsLongerUptoRow, standIns := [], harness := (true, "ebc1f0ea2f50f5734604443344f37ca9cf9aa97b69db2981064198876b716a7d"), looks := true }, kinds := [], alts := [], laidByText := true, laidKinds := [.handle], laidTests := true, laidLooks := .later }
def FactsLongerUptoCardSaid : Prop := Claim7.holds Tryd.pinned (.plain (OpenSpec.upto factsLongerSpec)) factsLongerUptoCard

/-- THE SECOND FORM's CARD OF 'stockadelaw25.FactsPlay'. -/
def factsPlayUptoCard : Claim7 := { stood := { row := factsPlayUptoRow, standIns := [], harness := (true, "ebc1f0ea2f50f5734604443344f37ca9cf9aa97b69db2981064198876b716a7d"), looks := true }, kinds := [], alts := [], laidByText := true, laidKinds := [.handle], laidTests := true, laidLooks := .later }
def FactsPlayUptoCardSaid : Prop := Claim7.holds Tryd.pinned (.plain (OpenSpec.upto factsPlaySpec)) factsPlayUptoCard

/-- THE SECOND FORM's CARD OF 'stockadelaw25.FactsFull'. -/
def factsFullUptoCard : Claim7 := { stood := { row := factsFullUptoRow, standIns := [], harness := (true, "ebc1f0ea2f50f5734604443344f37ca9cf9aa97b69db2981064198876b716a7d"), looks := true }, kinds := [], alts := [], laidByText := true, laidKinds := [.handle], laidTests := true, laidLooks := .later }
def FactsFullUptoCardSaid : Prop := Claim7.holds Tryd.pinned (.plain (OpenSpec.upto factsFullSpec)) factsFullUptoCard

/-- THE SECOND FORM's CARD OF 'stockadelaw25.FactsOrder'. -/
def factsOrderUptoCard : Claim7 := { stood := { row := factsOrderUptoRow, standIns := [], harness := (true, "ebc1f0ea2f50f5734604443344f37ca9cf9aa97b69db2981064198876b716a7d"), looks := true }, kinds := [], alts := [], laidByText := true, laidKinds := [.handle], laidTests := true, laidLooks := .later }
def FactsOrderUptoCardSaid : Prop := Claim7.holds Tryd.pinned (.plain (OpenSpec.upto factsOrderSpec)) factsOrderUptoCard

/-- THE SECOND FORM's CARD OF 'stockadelaw26.FlowsShakes'. -/
def flowsShakesUptoCard : Claim7 := { stood := { row := flowsShakesUptoRow, standIns := [], harness := (true, "ebc1f0ea2f50f5734604443344f37ca9cf9aa97b69db2981064198876b716a7d"), looks := true }, kinds := [], alts := [], laidByText := true, laidKinds := [.handle], laidTests := true, laidLooks := .later }
def FlowsShakesUptoCardSaid : Prop := Claim7.holds Tryd.pinned (.plain (OpenSpec.upto flowsShakesSpec)) flowsShakesUptoCard

/-- THE SECOND FORM's CARD OF 'stockadelaw26.FlowsRefuse'. -/
def flowsRefuseUptoCard : Claim7 := { stood := { row := flowsRefuseUptoRow, standIns := [], harness := (true, "ebc1f0ea2f50f5734604443344f37ca9cf9aa97b69db2981064198876b716a7d"), looks := true }, kinds := [], alts := [], laidByText := true, laidKinds := [.handle], laidTests := true, laidLooks := .later }
def FlowsRefuseUptoCardSaid : Prop := Claim7.holds Tryd.pinned (.plain (OpenSpec.upto flowsRefuseSpec)) flowsRefuseUptoCard

/-- THE SECOND FORM's CARD OF 'stockadelaw26.FlowsEnds'. -/
def flowsEndsUptoCard : Claim7 := { stood := { row := flowsEndsUptoRow, standIns := [], harness := (true, "ebc1f0ea2f50f5734604443344f37ca9cf9aa97b69db2981064198876b716a7d"), looks := true }, kinds := [], alts := [], laidByText := true, laidKinds := [.handle], laidTests := true, laidLooks := .later }
def FlowsEndsUptoCardSaid : Prop := Claim7.holds Tryd.pinned (.plain (OpenSpec.upto flowsEndsSpec)) flowsEndsUptoCard

/-- THE SECOND FORM's CARD OF 'stockadelaw26.FlowsBegin'. -/
def flowsBeginUptoCard : Claim7 := { stood := { row := flowsBeginUptoRow, standIns := [], harness := (true, "ebc1f0ea2f50f5734604443344f37ca9cf9aa97b69db2981064198876b716a7d"), looks := true }, kinds := [], alts := [], laidByText := true, laidKinds := [.handle], laidTests := true, laidLooks := .later }
def FlowsBeginUptoCardSaid : Prop := Claim7.holds Tryd.pinned (.plain (OpenSpec.upto flowsBeginSpec)) flowsBeginUptoCard
end Rows
end Go.Proofs.YtepaanpdjadakaaDoor
