/-
  NARROWER THAN 'FOR EVERY INPUT', by the rows' own cells (each row's printed sentence says how): ExpiryDue: laid · ExpiryNext: laid · ExpiryMoves: laid · ExpiryPlays: laid · ExpiryFull: laid · PendingOnce: laid · PendingKeeps: laid · PendingPlays: laid · PendingFull: laid · FactsLonger: laid · FactsPlay: laid · FactsFull: laid · FactsOrder: laid · FlowsShakes: laid · FlowsRefuse: laid · FlowsEnds: laid · FlowsBegin: laid.
  DERIVED. THE GIVEN ROWS OF THIS SEAT. 17 by the template 'for every input the law returns true; each argument reads behind the call as it read before'; 0 by the template 'total and deterministic' (their statements: YtepaanpdjadakaaDoorTotals.lean).
  GIVEN WITH THE SEED: the statements are not yours to turn. If you find one false, say at which input.
  Laid BY PROGRAM, IN A SANDBOX (cutbox-rows.mjs): the forced cells as the released guide's own fill.sh prints them over the translation 09de0c8d6041982f… (all of the seat's roots in one cut). By AI agents, Wed Nov 11 2026. No macro, syntax, notation, axiom, sorry.
-/
import Derived.Test.YtepaanpdjadakaaDoorChecked
import GoSem.Claim
import GoSem.ClaimJoined
import GoSem.ClaimMapViews
import Derived.JoinedTies
import Derived.KernelRfl
namespace Go.Proofs.YtepaanpdjadakaaDoor
/- THE CELL 'sum', in the pinned program and in every row, IS THE sha256 OF THE DUMP (.gsa) THAT YtepaanpdjadakaaDoorProg.lean LOADS. Nothing in Lean hashes anything: it is a label: what it is worth is what the hold of that sum in a sandbox is worth. -/
noncomputable def Tryd.pinned : Pinned := { name := "ytepaanpdjadakaadoor", sum := "09de0c8d6041982fe58e31c861a88431f39ecd67c4f71279f4ba92c8639906be", checked := Tryd.checked }
namespace Rows
def none {H : Type} : Left H := { results := [], args := [] }

/- WHAT THE LISTED PACKAGE-LEVEL VARIABLES READ AS WHEN THE CALL BEGINS. Each datum BY PROGRAM (the guide's laid-datum.mjs) off the statement by which the dump's own 'gosem.cut.vars' lays the variable. In a bare row this is a premise. The card (YtepaanpdjadakaaDoorCards.lean) ties it to the program's text. -/
def laid_errors_errorType {H : Type} : DataW H := .iface "internal/reflectlite.rtype" (.agg [.ptr (.lit (.string [101, 114, 114, 111, 114]))])

/-- 'stockadelaw17.ExpiryDue': WHATEVER THE INPUT: true; the input reads as it did. -/
def expiryDueSpec : ChangeSpec := { name := "expiryDue", fn := fun _ => fun
  | [d1, d2] => { results := [.lit (.bool true)], args := [d1, d2] }
  | _ => none }
def expiryDueRow : OpenClaim := { program := "ytepaanpdjadakaadoor", sum := "09de0c8d6041982fe58e31c861a88431f39ecd67c4f71279f4ba92c8639906be", func := "stockade/stockadelaw17.ExpiryDue", spec := "expiryDue", inPlace := ["internal/reflectlite.TypeOf", "internal/reflectlite.ValueOf", "(internal/reflectlite.Value).Type", "(internal/reflectlite.Value).IsNil", "(internal/reflectlite.Value).Elem", "(internal/reflectlite.Value).Set"], unfollowed := true, recurses := true, named := ["errors.errorType"], apart := false, laid := [("errors.errorType", laid_errors_errorType)] }
def ExpiryDueSaid : Prop := expiryDueRow.holds Tryd.pinned (OpenSpec.ofChange expiryDueSpec)

/-- ITS FALSE NEIGHBOUR: 'it returns false'. Refute it at one input. -/
def expiryDueWrong : ChangeSpec := { name := "expiryDue", fn := fun _ => fun
  | [d1, d2] => { results := [.lit (.bool false)], args := [d1, d2] }
  | _ => none }
def ExpiryDueWrongFalsely : Prop := expiryDueRow.holds Tryd.pinned (OpenSpec.ofChange expiryDueWrong)

/-- 'stockadelaw17.ExpiryNext': WHATEVER THE INPUT: true; the input reads as it did. -/
def expiryNextSpec : ChangeSpec := { name := "expiryNext", fn := fun _ => fun
  | [d] => { results := [.lit (.bool true)], args := [d] }
  | _ => none }
def expiryNextRow : OpenClaim := { program := "ytepaanpdjadakaadoor", sum := "09de0c8d6041982fe58e31c861a88431f39ecd67c4f71279f4ba92c8639906be", func := "stockade/stockadelaw17.ExpiryNext", spec := "expiryNext", inPlace := ["internal/reflectlite.TypeOf", "internal/reflectlite.ValueOf", "(internal/reflectlite.Value).Type", "(internal/reflectlite.Value).IsNil", "(internal/reflectlite.Value).Elem", "(internal/reflectlite.Value).Set"], unfollowed := true, recurses := true, named := ["errors.errorType"], apart := false, laid := [("errors.errorType", laid_errors_errorType)] }
def ExpiryNextSaid : Prop := expiryNextRow.holds Tryd.pinned (OpenSpec.ofChange expiryNextSpec)

/-- ITS FALSE NEIGHBOUR: 'it returns false'. Refute it at one input. -/
def expiryNextWrong : ChangeSpec := { name := "expiryNext", fn := fun _ => fun
  | [d] => { results := [.lit (.bool false)], args := [d] }
  | _ => none }
def ExpiryNextWrongFalsely : Prop := expiryNextRow.holds Tryd.pinned (OpenSpec.ofChange expiryNextWrong)

/-- 'stockadelaw17.ExpiryMoves': WHATEVER THE INPUT: true; the input reads as it did. -/
def expiryMovesSpec : ChangeSpec := { name := "expiryMoves", fn := fun _ => fun
  | [d1, d2, d3] => { results := [.lit (.bool true)], args := [d1, d2, d3] }
  | _ => none }
def expiryMovesRow : OpenClaim := { program := "ytepaanpdjadakaadoor", sum := "09de0c8d6041982fe58e31c861a88431f39ecd67c4f71279f4ba92c8639906be", func := "stockade/stockadelaw17.ExpiryMoves", spec := "expiryMoves", inPlace := ["internal/reflectlite.TypeOf", "internal/reflectlite.ValueOf", "(internal/reflectlite.Value).Type", "(internal/reflectlite.Value).IsNil", "(internal/reflectlite.Value).Elem", "(internal/reflectlite.Value).Set"], unfollowed := true, recurses := true, named := ["errors.errorType"], apart := false, laid := [("errors.errorType", laid_errors_errorType)] }
def ExpiryMovesSaid : Prop := expiryMovesRow.holds Tryd.pinned (OpenSpec.ofChange expiryMovesSpec)

/-- ITS FALSE NEIGHBOUR: 'it returns false'. Refute it at one input. -/
def expiryMovesWrong : ChangeSpec := { name := "expiryMoves", fn := fun _ => fun
  | [d1, d2, d3] => { results := [.lit (.bool false)], args := [d1, d2, d3] }
  | _ => none }
def ExpiryMovesWrongFalsely : Prop := expiryMovesRow.holds Tryd.pinned (OpenSpec.ofChange expiryMovesWrong)

/-- 'stockadelaw17.ExpiryPlays': WHATEVER THE INPUT: true; the input reads as it did. -/
def expiryPlaysSpec : ChangeSpec := { name := "expiryPlays", fn := fun _ => fun
  | [d1, d2] => { results := [.lit (.bool true)], args := [d1, d2] }
  | _ => none }
def expiryPlaysRow : OpenClaim := { program := "ytepaanpdjadakaadoor", sum := "09de0c8d6041982fe58e31c861a88431f39ecd67c4f71279f4ba92c8639906be", func := "stockade/stockadelaw17.ExpiryPlays", spec := "expiryPlays", inPlace := ["internal/reflectlite.TypeOf", "internal/reflectlite.ValueOf", "(internal/reflectlite.Value).Type", "(internal/reflectlite.Value).IsNil", "(internal/reflectlite.Value).Elem", "(internal/reflectlite.Value).Set"], unfollowed := true, recurses := true, named := ["errors.errorType"], apart := false, laid := [("errors.errorType", laid_errors_errorType)] }
def ExpiryPlaysSaid : Prop := expiryPlaysRow.holds Tryd.pinned (OpenSpec.ofChange expiryPlaysSpec)

/-- ITS FALSE NEIGHBOUR: 'it returns false'. Refute it at one input. -/
def expiryPlaysWrong : ChangeSpec := { name := "expiryPlays", fn := fun _ => fun
  | [d1, d2] => { results := [.lit (.bool false)], args := [d1, d2] }
  | _ => none }
def ExpiryPlaysWrongFalsely : Prop := expiryPlaysRow.holds Tryd.pinned (OpenSpec.ofChange expiryPlaysWrong)

/-- 'stockadelaw17.ExpiryFull': WHATEVER THE INPUT: true; the input reads as it did. -/
def expiryFullSpec : ChangeSpec := { name := "expiryFull", fn := fun _ => fun
  | [d1, d2, d3] => { results := [.lit (.bool true)], args := [d1, d2, d3] }
  | _ => none }
def expiryFullRow : OpenClaim := { program := "ytepaanpdjadakaadoor", sum := "09de0c8d6041982fe58e31c861a88431f39ecd67c4f71279f4ba92c8639906be", func := "stockade/stockadelaw17.ExpiryFull", spec := "expiryFull", inPlace := ["internal/reflectlite.TypeOf", "internal/reflectlite.ValueOf", "(internal/reflectlite.Value).Type", "(internal/reflectlite.Value).IsNil", "(internal/reflectlite.Value).Elem", "(internal/reflectlite.Value).Set"], unfollowed := true, recurses := true, named := ["errors.errorType"], apart := false, laid := [("errors.errorType", laid_errors_errorType)] }
def ExpiryFullSaid : Prop := expiryFullRow.holds Tryd.pinned (OpenSpec.ofChange expiryFullSpec)

/-- ITS FALSE NEIGHBOUR: 'it returns false'. Refute it at one input. -/
def expiryFullWrong : ChangeSpec := { name := "expiryFull", fn := fun _ => fun
  | [d1, d2, d3] => { results := [.lit (.bool false)], args := [d1, d2, d3] }
  | _ => none }
def ExpiryFullWrongFalsely : Prop := expiryFullRow.holds Tryd.pinned (OpenSpec.ofChange expiryFullWrong)

/-- 'stockadelaw23.PendingOnce': WHATEVER THE INPUT: true; the input reads as it did. -/
def pendingOnceSpec : ChangeSpec := { name := "pendingOnce", fn := fun _ => fun
  | [d1, d2, d3, d4] => { results := [.lit (.bool true)], args := [d1, d2, d3, d4] }
  | _ => none }
def pendingOnceRow : OpenClaim := { program := "ytepaanpdjadakaadoor", sum := "09de0c8d6041982fe58e31c861a88431f39ecd67c4f71279f4ba92c8639906be", func := "stockade/stockadelaw23.PendingOnce", spec := "pendingOnce", inPlace := ["internal/reflectlite.TypeOf", "internal/reflectlite.ValueOf", "(internal/reflectlite.Value).Type", "(internal/reflectlite.Value).IsNil", "(internal/reflectlite.Value).Elem", "(internal/reflectlite.Value).Set"], unfollowed := true, recurses := true, named := ["errors.errorType"], apart := false, laid := [("errors.errorType", laid_errors_errorType)] }
def PendingOnceSaid : Prop := pendingOnceRow.holds Tryd.pinned (OpenSpec.ofChange pendingOnceSpec)

/-- ITS FALSE NEIGHBOUR: 'it returns false'. Refute it at one input. -/
def pendingOnceWrong : ChangeSpec := { name := "pendingOnce", fn := fun _ => fun
  | [d1, d2, d3, d4] => { results := [.lit (.bool false)], args := [d1, d2, d3, d4] }
  | _ => none }
def PendingOnceWrongFalsely : Prop := pendingOnceRow.holds Tryd.pinned (OpenSpec.ofChange pendingOnceWrong)

/-- 'stockadelaw23.PendingKeeps': WHATEVER THE INPUT: true; the input reads as it did. -/
def pendingKeepsSpec : ChangeSpec := { name := "pendingKeeps", fn := fun _ => fun
  | [d1, d2] => { results := [.lit (.bool true)], args := [d1, d2] }
  | _ => none }
def pendingKeepsRow : OpenClaim := { program := "ytepaanpdjadakaadoor", sum := "09de0c8d6041982fe58e31c861a88431f39ecd67c4f71279f4ba92c8639906be", func := "stockade/stockadelaw23.PendingKeeps", spec := "pendingKeeps", inPlace := ["internal/reflectlite.TypeOf", "internal/reflectlite.ValueOf", "(internal/reflectlite.Value).Type", "(internal/reflectlite.Value).IsNil", "(internal/reflectlite.Value).Elem", "(internal/reflectlite.Value).Set"], unfollowed := true, recurses := true, named := ["errors.errorType"], apart := false, laid := [("errors.errorType", laid_errors_errorType)] }
def PendingKeepsSaid : Prop := pendingKeepsRow.holds Tryd.pinned (OpenSpec.ofChange pendingKeepsSpec)

/-- ITS FALSE NEIGHBOUR: 'it returns false'. Refute it at one input. -/
def pendingKeepsWrong : ChangeSpec := { name := "pendingKeeps", fn := fun _ => fun
  | [d1, d2] => { results := [.lit (.bool false)], args := [d1, d2] }
  | _ => none }
def PendingKeepsWrongFalsely : Prop := pendingKeepsRow.holds Tryd.pinned (OpenSpec.ofChange pendingKeepsWrong)

/-- 'stockadelaw23.PendingPlays': WHATEVER THE INPUT: true; the input reads as it did. -/
def pendingPlaysSpec : ChangeSpec := { name := "pendingPlays", fn := fun _ => fun
  | [d1, d2] => { results := [.lit (.bool true)], args := [d1, d2] }
  | _ => none }
def pendingPlaysRow : OpenClaim := { program := "ytepaanpdjadakaadoor", sum := "09de0c8d6041982fe58e31c861a88431f39ecd67c4f71279f4ba92c8639906be", func := "stockade/stockadelaw23.PendingPlays", spec := "pendingPlays", inPlace := ["internal/reflectlite.TypeOf", "internal/reflectlite.ValueOf", "(internal/reflectlite.Value).Type", "(internal/reflectlite.Value).IsNil", "(internal/reflectlite.Value).Elem", "(internal/reflectlite.Value).Set"], unfollowed := true, recurses := true, named := ["errors.errorType"], apart := false, laid := [("errors.errorType", laid_errors_errorType)] }
def PendingPlaysSaid : Prop := pendingPlaysRow.holds Tryd.pinned (OpenSpec.ofChange pendingPlaysSpec)

/-- ITS FALSE NEIGHBOUR: 'it returns false'. Refute it at one input. -/
def pendingPlaysWrong : ChangeSpec := { name := "pendingPlays", fn := fun _ => fun
  | [d1, d2] => { results := [.lit (.bool false)], args := [d1, d2] }
  | _ => none }
def PendingPlaysWrongFalsely : Prop := pendingPlaysRow.holds Tryd.pinned (OpenSpec.ofChange pendingPlaysWrong)

/-- 'stockadelaw23.PendingFull': WHATEVER THE INPUT: true; the input reads as it did. -/
def pendingFullSpec : ChangeSpec := { name := "pendingFull", fn := fun _ => fun
  | [d1, d2] => { results := [.lit (.bool true)], args := [d1, d2] }
  | _ => none }
def pendingFullRow : OpenClaim := { program := "ytepaanpdjadakaadoor", sum := "09de0c8d6041982fe58e31c861a88431f39ecd67c4f71279f4ba92c8639906be", func := "stockade/stockadelaw23.PendingFull", spec := "pendingFull", inPlace := ["internal/reflectlite.TypeOf", "internal/reflectlite.ValueOf", "(internal/reflectlite.Value).Type", "(internal/reflectlite.Value).IsNil", "(internal/reflectlite.Value).Elem", "(internal/reflectlite.Value).Set"], unfollowed := true, recurses := true, named := ["errors.errorType"], apart := false, laid := [("errors.errorType", laid_errors_errorType)] }
def PendingFullSaid : Prop := pendingFullRow.holds Tryd.pinned (OpenSpec.ofChange pendingFullSpec)

/-- ITS FALSE NEIGHBOUR: 'it returns false'. Refute it at one input. -/
def pendingFullWrong : ChangeSpec := { name := "pendingFull", fn := fun _ => fun
  | [d1, d2] => { results := [.lit (.bool false)], args := [d1, d2] }
  | _ => none }
def PendingFullWrongFalsely : Prop := pendingFullRow.holds Tryd.pinned (OpenSpec.ofChange pendingFullWrong)

/-- 'stockadelaw25.FactsLonger': WHATEVER THE INPUT: true; the input reads as it did. -/
def factsLongerSpec : ChangeSpec := { name := "factsLonger", fn := fun _ => fun
  | [d1, d2] => { results := [.lit (.bool true)], args := [d1, d2] }
  | _ => none }
def factsLongerRow : OpenClaim := { program := "ytepaanpdjadakaadoor", sum := "09de0c8d6041982fe58e31c861a88431f39ecd67c4f71279f4ba92c8639906be", func := "stockade/stockadelaw25.FactsLonger", spec := "factsLonger", inPlace := ["internal/reflectlite.TypeOf", "internal/reflectlite.ValueOf", "(internal/reflectlite.Value).Type", "(internal/reflectlite.Value).IsNil", "(internal/reflectlite.Value).Elem", "(internal/reflectlite.Value).Set"], unfollowed := true, recurses := true, named := ["errors.errorType"], apart := false, laid := [("errors.errorType", laid_errors_errorType)] }
def FactsLongerSaid : Prop := factsLongerRow.holds Tryd.pinned (OpenSpec.ofChange factsLongerSpec)

/-- ITS FALSE NEIGHBOUR: 'it returns false'. Refute it at one input. -/
def factsLongerWrong : ChangeSpec := { name := "factsLonger", fn := fun _ => fun
  | [d1, d2] => { results := [.lit (.bool false)], args := [d1, d2] }
  | _ => none }
def FactsLongerWrongFalsely : Prop := factsLongerRow.holds Tryd.pinned (OpenSpec.ofChange factsLongerWrong)

/-- 'stockadelaw25.FactsPlay': WHATEVER THE INPUT: true; the input reads as it did. -/
def factsPlaySpec : ChangeSpec := { name := "factsPlay", fn := fun _ => fun
  | [d1, d2] => { results := [.lit (.bool true)], args := [d1, d2] }
  | _ => none }
def factsPlayRow : OpenClaim := { program := "ytepaanpdjadakaadoor", sum := "09de0c8d6041982fe58e31c861a88431f39ecd67c4f71279f4ba92c8639906be", func := "stockade/stockadelaw25.FactsPlay", spec := "factsPlay", inPlace := ["internal/reflectlite.TypeOf", "internal/reflectlite.ValueOf", "(internal/reflectlite.Value).Type", "(internal/reflectlite.Value).IsNil", "(internal/reflectlite.Value).Elem", "(internal/reflectlite.Value).Set"], unfollowed := true, recurses := true, named := ["errors.errorType"], apart := false, laid := [("errors.errorType", laid_errors_errorType)] }
def FactsPlaySaid : Prop := factsPlayRow.holds Tryd.pinned (OpenSpec.ofChange factsPlaySpec)

/-- ITS FALSE NEIGHBOUR: 'it returns false'. Refute it at one input. -/
def factsPlayWrong : ChangeSpec := { name := "factsPlay", fn := fun _ => fun
  | [d1, d2] => { results := [.lit (.bool false)], args := [d1, d2] }
  | _ => none }
def FactsPlayWrongFalsely : Prop := factsPlayRow.holds Tryd.pinned (OpenSpec.ofChange factsPlayWrong)

/-- 'stockadelaw25.FactsFull': WHATEVER THE INPUT: true; the input reads as it did. -/
def factsFullSpec : ChangeSpec := { name := "factsFull", fn := fun _ => fun
  | [d1, d2, d3] => { results := [.lit (.bool true)], args := [d1, d2, d3] }
  | _ => none }
def factsFullRow : OpenClaim := { program := "ytepaanpdjadakaadoor", sum := "09de0c8d6041982fe58e31c861a88431f39ecd67c4f71279f4ba92c8639906be", func := "stockade/stockadelaw25.FactsFull", spec := "factsFull", inPlace := ["internal/reflectlite.TypeOf", "internal/reflectlite.ValueOf", "(internal/reflectlite.Value).Type", "(internal/reflectlite.Value).IsNil", "(internal/reflectlite.Value).Elem", "(internal/reflectlite.Value).Set"], unfollowed := true, recurses := true, named := ["errors.errorType"], apart := false, laid := [("errors.errorType", laid_errors_errorType)] }
def FactsFullSaid : Prop := factsFullRow.holds Tryd.pinned (OpenSpec.ofChange factsFullSpec)

/-- ITS FALSE NEIGHBOUR: 'it returns false'. Refute it at one input. -/
def factsFullWrong : ChangeSpec := { name := "factsFull", fn := fun _ => fun
  | [d1, d2, d3] => { results := [.lit (.bool false)], args := [d1, d2, d3] }
  | _ => none }
def FactsFullWrongFalsely : Prop := factsFullRow.holds Tryd.pinned (OpenSpec.ofChange factsFullWrong)

/-- 'stockadelaw25.FactsOrder': WHATEVER THE INPUT: true; the input reads as it did. -/
def factsOrderSpec : ChangeSpec := { name := "factsOrder", fn := fun _ => fun
  | [d1, d2] => { results := [.lit (.bool true)], args := [d1, d2] }
  | _ => none }
def factsOrderRow : OpenClaim := { program := "ytepaanpdjadakaadoor", sum := "09de0c8d6041982fe58e31c861a88431f39ecd67c4f71279f4ba92c8639906be", func := "stockade/stockadelaw25.FactsOrder", spec := "factsOrder", inPlace := ["internal/reflectlite.TypeOf", "internal/reflectlite.ValueOf", "(internal/reflectlite.Value).Type", "(internal/reflectlite.Value).IsNil", "(internal/reflectlite.Value).Elem", "(internal/reflectlite.Value).Set"], unfollowed := true, recurses := true, named := ["errors.errorType"], apart := false, laid := [("errors.errorType", laid_errors_errorType)] }
def FactsOrderSaid : Prop := factsOrderRow.holds Tryd.pinned (OpenSpec.ofChange factsOrderSpec)

/-- ITS FALSE NEIGHBOUR: 'it returns false'. Refute it at one input. -/
def factsOrderWrong : ChangeSpec := { name := "factsOrder", fn := fun _ => fun
  | [d1, d2] => { results := [.lit (.bool false)], args := [d1, d2] }
  | _ => none }
def FactsOrderWrongFalsely : Prop := factsOrderRow.holds Tryd.pinned (OpenSpec.ofChange factsOrderWrong)

/-- 'stockadelaw26.FlowsShakes': WHATEVER THE INPUT: true; the input reads as it did. -/
def flowsShakesSpec : ChangeSpec := { name := "flowsShakes", fn := fun _ => fun
  | [d1, d2, d3] => { results := [.lit (.bool true)], args := [d1, d2, d3] }
  | _ => none }
def flowsShakesRow : OpenClaim := { program := "ytepaanpdjadakaadoor", sum := "09de0c8d6041982fe58e31c861a88431f39ecd67c4f71279f4ba92c8639906be", func := "stockade/stockadelaw26.FlowsShakes", spec := "flowsShakes", inPlace := ["internal/reflectlite.TypeOf", "internal/reflectlite.ValueOf", "(internal/reflectlite.Value).Type", "(internal/reflectlite.Value).IsNil", "(internal/reflectlite.Value).Elem", "(internal/reflectlite.Value).Set"], unfollowed := true, recurses := true, named := ["errors.errorType"], apart := false, laid := [("errors.errorType", laid_errors_errorType)] }
def FlowsShakesSaid : Prop := flowsShakesRow.holds Tryd.pinned (OpenSpec.ofChange flowsShakesSpec)

/-- ITS FALSE NEIGHBOUR: 'it returns false'. Refute it at one input. -/
def flowsShakesWrong : ChangeSpec := { name := "flowsShakes", fn := fun _ => fun
  | [d1, d2, d3] => { results := [.lit (.bool false)], args := [d1, d2, d3] }
  | _ => none }
def FlowsShakesWrongFalsely : Prop := flowsShakesRow.holds Tryd.pinned (OpenSpec.ofChange flowsShakesWrong)

/-- 'stockadelaw26.FlowsRefuse': WHATEVER THE INPUT: true; the input reads as it did. -/
def flowsRefuseSpec : ChangeSpec := { name := "flowsRefuse", fn := fun _ => fun
  | [d1, d2] => { results := [.lit (.bool true)], args := [d1, d2] }
  | _ => none }
def flowsRefuseRow : OpenClaim := { program := "ytepaanpdjadakaadoor", sum := "09de0c8d6041982fe58e31c861a88431f39ecd67c4f71279f4ba92c8639906be", func := "stockade/stockadelaw26.FlowsRefuse", spec := "flowsRefuse", inPlace := ["internal/reflectlite.TypeOf", "internal/reflectlite.ValueOf", "(internal/reflectlite.Value).Type", "(internal/reflectlite.Value).IsNil", "(internal/reflectlite.Value).Elem", "(internal/reflectlite.Value).Set"], unfollowed := true, recurses := true, named := ["errors.errorType"], apart := false, laid := [("errors.errorType", laid_errors_errorType)] }
def FlowsRefuseSaid : Prop := flowsRefuseRow.holds Tryd.pinned (OpenSpec.ofChange flowsRefuseSpec)

/-- ITS FALSE NEIGHBOUR: 'it returns false'. Refute it at one input. -/
def flowsRefuseWrong : ChangeSpec := { name := "flowsRefuse", fn := fun _ => fun
  | [d1, d2] => { results := [.lit (.bool false)], args := [d1, d2] }
  | _ => none }
def FlowsRefuseWrongFalsely : Prop := flowsRefuseRow.holds Tryd.pinned (OpenSpec.ofChange flowsRefuseWrong)

/-- 'stockadelaw26.FlowsEnds': WHATEVER THE INPUT: true; the input reads as it did. -/
def flowsEndsSpec : ChangeSpec := { name := "flowsEnds", fn := fun _ => fun
  | [d1, d2, d3, d4] => { results := [.lit (.bool true)], args := [d1, d2, d3, d4] }
  | _ => none }
def flowsEndsRow : OpenClaim := { program := "ytepaanpdjadakaadoor", sum := "09de0c8d6041982fe58e31c861a88431f39ecd67c4f71279f4ba92c8639906be", func := "stockade/stockadelaw26.FlowsEnds", spec := "flowsEnds", inPlace := ["internal/reflectlite.TypeOf", "internal/reflectlite.ValueOf", "(internal/reflectlite.Value).Type", "(internal/reflectlite.Value).IsNil", "(internal/reflectlite.Value).Elem", "(internal/reflectlite.Value).Set"], unfollowed := true, recurses := true, named := ["errors.errorType"], apart := false, laid := [("errors.errorType", laid_errors_errorType)] }
def FlowsEndsSaid : Prop := flowsEndsRow.holds Tryd.pinned (OpenSpec.ofChange flowsEndsSpec)

/-- ITS FALSE NEIGHBOUR: 'it returns false'. Refute it at one input. -/
def flowsEndsWrong : ChangeSpec := { name := "flowsEnds", fn := fun _ => fun
  | [d1, d2, d3, d4] => { results := [.lit (.bool false)], args := [d1, d2, d3, d4] }
  | _ => none }
def FlowsEndsWrongFalsely : Prop := flowsEndsRow.holds Tryd.pinned (OpenSpec.ofChange flowsEndsWrong)

/-- 'stockadelaw26.FlowsBegin': WHATEVER THE INPUT: true; the input reads as it did. -/
def flowsBeginSpec : ChangeSpec := { name := "flowsBegin", fn := fun _ => fun
  | [d1, d2, d3] => { results := [.lit (.bool true)], args := [d1, d2, d3] }
  | _ => none }
def flowsBeginRow : OpenClaim := { program := "ytepaanpdjadakaadoor", sum := "09de0c8d6041982fe58e31c861a88431f39ecd67c4f71279f4ba92c8639906be", func := "stockade/stockadelaw26.FlowsBegin", spec := "flowsBegin", inPlace := ["internal/reflectlite.TypeOf", "internal/reflectlite.ValueOf", "(internal/reflectlite.Value).Type", "(internal/reflectlite.Value).IsNil", "(internal/reflectlite.Value).Elem", "(internal/reflectlite.Value).Set"], unfollowed := true, recurses := true, named := ["errors.errorType"], apart := false, laid := [("errors.errorType", laid_errors_errorType)] }
def FlowsBeginSaid : Prop := flowsBeginRow.holds Tryd.pinned (OpenSpec.ofChange flowsBeginSpec)

/-- ITS FALSE NEIGHBOUR: 'it returns false'. Refute it at one input. -/
def flowsBeginWrong : ChangeSpec := { name := "flowsBegin", fn := fun _ => fun
  | [d1, d2, d3] => { results := [.lit (.bool false)], args := [d1, d2, d3] }
  | _ => none }
def FlowsBeginWrongFalsely : Prop := flowsBeginRow.holds Tryd.pinned (OpenSpec.ofChange flowsBeginWrong)

/- THE SECOND FORM. 'bulk': how many values and letters a reading holds, each counted each time it is reached (what is shared counts as often as it is met; a slice's spare places count too). A statement '..UptoSaid' is the law's where the arguments, and the package variables that the reading takes, are together of bulk at most 1048576: NARROWER than '..Said'. Prove '..Said' where nothing that the law and all that it calls make is longer than what came in: it says more and counts as full. Else prove '..UptoSaid'. A law counts once. -/
mutual
def uptoBulk {H : Type} : DataW H → Nat
  | .lit (.string bytes) => bytes.length + 1
  | .lit _ => 1
  | .nil => 1
  | .ptr d => uptoBulk d + 1
  | .slice elems spare => uptoBulkAll elems + uptoBulkAll spare + 1
  | .agg parts => uptoBulkAll parts + 1
  | .iface _ d => uptoBulk d + 1
  | .map entries => uptoBulkEntries entries + 1
  | .held _ => 1
def uptoBulkAll {H : Type} : List (DataW H) → Nat
  | [] => 0
  | d :: r => uptoBulk d + uptoBulkAll r
def uptoBulkEntries {H : Type} : List (Lit × DataW H) → Nat
  | [] => 0
  | x :: r => uptoBulkEntry x + uptoBulkEntries r
def uptoBulkEntry {H : Type} : Lit × DataW H → Nat
  | (.string bytes, d) => bytes.length + uptoBulk d + 1
  | (_, d) => uptoBulk d + 1
 end
def uptoSmall : (H : Type) → List (DataW H) → Bool := fun _ ds => decide (uptoBulkAll ds ≤ 1048576)
def OpenSpec.upto (s : _root_.Go.ChangeSpec) : _root_.Go.OpenSpec := { _root_.Go.OpenSpec.ofChange s with cond := some uptoSmall }

/-- 'stockadelaw17.ExpiryDue', WHERE WHAT IT READS IS OF BULK AT MOST 1048576: true; the input reads as it did. -/
def expiryDueUptoRow : OpenClaim := { program := "ytepaanpdjadakaadoor", sum := "09de0c8d6041982fe58e31c861a88431f39ecd67c4f71279f4ba92c8639906be", func := "stockade/stockadelaw17.ExpiryDue", spec := "expiryDue", inPlace := ["internal/reflectlite.TypeOf", "internal/reflectlite.ValueOf", "(internal/reflectlite.Value).Type", "(internal/reflectlite.Value).IsNil", "(internal/reflectlite.Value).Elem", "(internal/reflectlite.Value).Set"], unfollowed := true, recurses := true, named := ["errors.errorType"], apart := false, laid := [("errors.errorType", laid_errors_errorType)], narrowed := true }
def ExpiryDueUptoSaid : Prop := expiryDueUptoRow.holds Tryd.pinned (OpenSpec.upto expiryDueSpec)

/-- 'stockadelaw17.ExpiryNext', WHERE WHAT IT READS IS OF BULK AT MOST 1048576: true; the input reads as it did. -/
def expiryNextUptoRow : OpenClaim := { program := "ytepaanpdjadakaadoor", sum := "09de0c8d6041982fe58e31c861a88431f39ecd67c4f71279f4ba92c8639906be", func := "stockade/stockadelaw17.ExpiryNext", spec := "expiryNext", inPlace := ["internal/reflectlite.TypeOf", "internal/reflectlite.ValueOf", "(internal/reflectlite.Value).Type", "(internal/reflectlite.Value).IsNil", "(internal/reflectlite.Value).Elem", "(internal/reflectlite.Value).Set"], unfollowed := true, recurses := true, named := ["errors.errorType"], apart := false, laid := [("errors.errorType", laid_errors_errorType)], narrowed := true }
def ExpiryNextUptoSaid : Prop := expiryNextUptoRow.holds Tryd.pinned (OpenSpec.upto expiryNextSpec)

/-- 'stockadelaw17.ExpiryMoves', WHERE WHAT IT READS IS OF BULK AT MOST 1048576: true; the input reads as it did. -/
def expiryMovesUptoRow : OpenClaim := { program := "ytepaanpdjadakaadoor", sum := "09de0c8d6041982fe58e31c861a88431f39ecd67c4f71279f4ba92c8639906be", func := "stockade/stockadelaw17.ExpiryMoves", spec := "expiryMoves", inPlace := ["internal/reflectlite.TypeOf", "internal/reflectlite.ValueOf", "(internal/reflectlite.Value).Type", "(internal/reflectlite.Value).IsNil", "(internal/reflectlite.Value).Elem", "(internal/reflectlite.Value).Set"], unfollowed := true, recurses := true, named := ["errors.errorType"], apart := false, laid := [("errors.errorType", laid_errors_errorType)], narrowed := true }
def ExpiryMovesUptoSaid : Prop := expiryMovesUptoRow.holds Tryd.pinned (OpenSpec.upto expiryMovesSpec)

/-- 'stockadelaw17.ExpiryPlays', WHERE WHAT IT READS IS OF BULK AT MOST 1048576: true; the input reads as it did. -/
def expiryPlaysUptoRow : OpenClaim := { program := "ytepaanpdjadakaadoor", sum := "09de0c8d6041982fe58e31c861a88431f39ecd67c4f71279f4ba92c8639906be", func := "stockade/stockadelaw17.ExpiryPlays", spec := "expiryPlays", inPlace := ["internal/reflectlite.TypeOf", "internal/reflectlite.ValueOf", "(internal/reflectlite.Value).Type", "(internal/reflectlite.Value).IsNil", "(internal/reflectlite.Value).Elem", "(internal/reflectlite.Value).Set"], unfollowed := true, recurses := true, named := ["errors.errorType"], apart := false, laid := [("errors.errorType", laid_errors_errorType)], narrowed := true }
def ExpiryPlaysUptoSaid : Prop := expiryPlaysUptoRow.holds Tryd.pinned (OpenSpec.upto expiryPlaysSpec)

/-- 'stockadelaw17.ExpiryFull', WHERE WHAT IT READS IS OF BULK AT MOST 1048576: true; the input reads as it did. -/
def expiryFullUptoRow : OpenClaim := { program := "ytepaanpdjadakaadoor", sum := "09de0c8d6041982fe58e31c861a88431f39ecd67c4f71279f4ba92c8639906be", func := "stockade/stockadelaw17.ExpiryFull", spec := "expiryFull", inPlace := ["internal/reflectlite.TypeOf", "internal/reflectlite.ValueOf", "(internal/reflectlite.Value).Type", "(internal/reflectlite.Value).IsNil", "(internal/reflectlite.Value).Elem", "(internal/reflectlite.Value).Set"], unfollowed := true, recurses := true, named := ["errors.errorType"], apart := false, laid := [("errors.errorType", laid_errors_errorType)], narrowed := true }
def ExpiryFullUptoSaid : Prop := expiryFullUptoRow.holds Tryd.pinned (OpenSpec.upto expiryFullSpec)

/-- 'stockadelaw23.PendingOnce', WHERE WHAT IT READS IS OF BULK AT MOST 1048576: true; the input reads as it did. -/
def pendingOnceUptoRow : OpenClaim := { program := "ytepaanpdjadakaadoor", sum := "09de0c8d6041982fe58e31c861a88431f39ecd67c4f71279f4ba92c8639906be", func := "stockade/stockadelaw23.PendingOnce", spec := "pendingOnce", inPlace := ["internal/reflectlite.TypeOf", "internal/reflectlite.ValueOf", "(internal/reflectlite.Value).Type", "(internal/reflectlite.Value).IsNil", "(internal/reflectlite.Value).Elem", "(internal/reflectlite.Value).Set"], unfollowed := true, recurses := true, named := ["errors.errorType"], apart := false, laid := [("errors.errorType", laid_errors_errorType)], narrowed := true }
def PendingOnceUptoSaid : Prop := pendingOnceUptoRow.holds Tryd.pinned (OpenSpec.upto pendingOnceSpec)

/-- 'stockadelaw23.PendingKeeps', WHERE WHAT IT READS IS OF BULK AT MOST 1048576: true; the input reads as it did. -/
def pendingKeepsUptoRow : OpenClaim := { program := "ytepaanpdjadakaadoor", sum := "09de0c8d6041982fe58e31c861a88431f39ecd67c4f71279f4ba92c8639906be", func := "stockade/stockadelaw23.PendingKeeps", spec := "pendingKeeps", inPlace := ["internal/reflectlite.TypeOf", "internal/reflectlite.ValueOf", "(internal/reflectlite.Value).Type", "(internal/reflectlite.Value).IsNil", "(internal/reflectlite.Value).Elem", "(internal/reflectlite.Value).Set"], unfollowed := true, recurses := true, named := ["errors.errorType"], apart := false, laid := [("errors.errorType", laid_errors_errorType)], narrowed := true }
def PendingKeepsUptoSaid : Prop := pendingKeepsUptoRow.holds Tryd.pinned (OpenSpec.upto pendingKeepsSpec)

/-- 'stockadelaw23.PendingPlays', WHERE WHAT IT READS IS OF BULK AT MOST 1048576: true; the input reads as it did. -/
def pendingPlaysUptoRow : OpenClaim := { program := "ytepaanpdjadakaadoor", sum := "09de0c8d6041982fe58e31c861a88431f39ecd67c4f71279f4ba92c8639906be", func := "stockade/stockadelaw23.PendingPlays", spec := "pendingPlays", inPlace := ["internal/reflectlite.TypeOf", "internal/reflectlite.ValueOf", "(internal/reflectlite.Value).Type", "(internal/reflectlite.Value).IsNil", "(internal/reflectlite.Value).Elem", "(internal/reflectlite.Value).Set"], unfollowed := true, recurses := true, named := ["errors.errorType"], apart := false, laid := [("errors.errorType", laid_errors_errorType)], narrowed := true }
def PendingPlaysUptoSaid : Prop := pendingPlaysUptoRow.holds Tryd.pinned (OpenSpec.upto pendingPlaysSpec)

/-- 'stockadelaw23.PendingFull', WHERE WHAT IT READS IS OF BULK AT MOST 1048576: true; the input reads as it did. -/
def pendingFullUptoRow : OpenClaim := { program := "ytepaanpdjadakaadoor", sum := "09de0c8d6041982fe58e31c861a88431f39ecd67c4f71279f4ba92c8639906be", func := "stockade/stockadelaw23.PendingFull", spec := "pendingFull", inPlace := ["internal/reflectlite.TypeOf", "internal/reflectlite.ValueOf", "(internal/reflectlite.Value).Type", "(internal/reflectlite.Value).IsNil", "(internal/reflectlite.Value).Elem", "(internal/reflectlite.Value).Set"], unfollowed := true, recurses := true, named := ["errors.errorType"], apart := false, laid := [("errors.errorType", laid_errors_errorType)], narrowed := true }
def PendingFullUptoSaid : Prop := pendingFullUptoRow.holds Tryd.pinned (OpenSpec.upto pendingFullSpec)

/-- 'stockadelaw25.FactsLonger', WHERE WHAT IT READS IS OF BULK AT MOST 1048576: true; the input reads as it did. -/
def factsLongerUptoRow : OpenClaim := { program := "ytepaanpdjadakaadoor", sum := "09de0c8d6041982fe58e31c861a88431f39ecd67c4f71279f4ba92c8639906be", func := "stockade/stockadelaw25.FactsLonger", spec := "factsLonger", inPlace := ["internal/reflectlite.TypeOf", "internal/reflectlite.ValueOf", "(internal/reflectlite.Value).Type", "(internal/reflectlite.Value).IsNil", "(internal/reflectlite.Value).Elem", "(internal/reflectlite.Value).Set"], unfollowed := true, recurses := true, named := ["errors.errorType"], apart := false, laid := [("errors.errorType", laid_errors_errorType)], narrowed := true }
def FactsLongerUptoSaid : Prop := factsLongerUptoRow.holds Tryd.pinned (OpenSpec.upto factsLongerSpec)

/-- 'stockadelaw25.FactsPlay', WHERE WHAT IT READS IS OF BULK AT MOST 1048576: true; the input reads as it did. -/
def factsPlayUptoRow : OpenClaim := { program := "ytepaanpdjadakaadoor", sum := "09de0c8d6041982fe58e31c861a88431f39ecd67c4f71279f4ba92c8639906be", func := "stockade/stockadelaw25.FactsPlay", spec := "factsPlay", inPlace := ["internal/reflectlite.TypeOf", "internal/reflectlite.ValueOf", "(internal/reflectlite.Value).Type", "(internal/reflectlite.Value).IsNil", "(internal/reflectlite.Value).Elem", "(internal/reflectlite.Value).Set"], unfollowed := true, recurses := true, named := ["errors.errorType"], apart := false, laid := [("errors.errorType", laid_errors_errorType)], narrowed := true }
def FactsPlayUptoSaid : Prop := factsPlayUptoRow.holds Tryd.pinned (OpenSpec.upto factsPlaySpec)

/-- 'stockadelaw25.FactsFull', WHERE WHAT IT READS IS OF BULK AT MOST 1048576: true; the input reads as it did. -/
def factsFullUptoRow : OpenClaim := { program := "ytepaanpdjadakaadoor", sum := "09de0c8d6041982fe58e31c861a88431f39ecd67c4f71279f4ba92c8639906be", func := "stockade/stockadelaw25.FactsFull", spec := "factsFull", inPlace := ["internal/reflectlite.TypeOf", "internal/reflectlite.ValueOf", "(internal/reflectlite.Value).Type", "(internal/reflectlite.Value).IsNil", "(internal/reflectlite.Value).Elem", "(internal/reflectlite.Value).Set"], unfollowed := true, recurses := true, named := ["errors.errorType"], apart := false, laid := [("errors.errorType", laid_errors_errorType)], narrowed := true }
def FactsFullUptoSaid : Prop := factsFullUptoRow.holds Tryd.pinned (OpenSpec.upto factsFullSpec)

/-- 'stockadelaw25.FactsOrder', WHERE WHAT IT READS IS OF BULK AT MOST 1048576: true; the input reads as it did. -/
def factsOrderUptoRow : OpenClaim := { program := "ytepaanpdjadakaadoor", sum := "09de0c8d6041982fe58e31c861a88431f39ecd67c4f71279f4ba92c8639906be", func := "stockade/stockadelaw25.FactsOrder", spec := "factsOrder", inPlace := ["internal/reflectlite.TypeOf", "internal/reflectlite.ValueOf", "(internal/reflectlite.Value).Type", "(internal/reflectlite.Value).IsNil", "(internal/reflectlite.Value).Elem", "(internal/reflectlite.Value).Set"], unfollowed := true, recurses := true, named := ["errors.errorType"], apart := false, laid := [("errors.errorType", laid_errors_errorType)], narrowed := true }
def FactsOrderUptoSaid : Prop := factsOrderUptoRow.holds Tryd.pinned (OpenSpec.upto factsOrderSpec)

/-- 'stockadelaw26.FlowsShakes', WHERE WHAT IT READS IS OF BULK AT MOST 1048576: true; the input reads as it did. -/
def flowsShakesUptoRow : OpenClaim := { program := "ytepaanpdjadakaadoor", sum := "09de0c8d6041982fe58e31c861a88431f39ecd67c4f71279f4ba92c8639906be", func := "stockade/stockadelaw26.FlowsShakes", spec := "flowsShakes", inPlace := ["internal/reflectlite.TypeOf", "internal/reflectlite.ValueOf", "(internal/reflectlite.Value).Type", "(internal/reflectlite.Value).IsNil", "(internal/reflectlite.Value).Elem", "(internal/reflectlite.Value).Set"], unfollowed := true, recurses := true, named := ["errors.errorType"], apart := false, laid := [("errors.errorType", laid_errors_errorType)], narrowed := true }
def FlowsShakesUptoSaid : Prop := flowsShakesUptoRow.holds Tryd.pinned (OpenSpec.upto flowsShakesSpec)

/-- 'stockadelaw26.FlowsRefuse', WHERE WHAT IT READS IS OF BULK AT MOST 1048576: true; the input reads as it did. -/
def flowsRefuseUptoRow : OpenClaim := { program := "ytepaanpdjadakaadoor", sum := "09de0c8d6041982fe58e31c861a88431f39ecd67c4f71279f4ba92c8639906be", func := "stockade/stockadelaw26.FlowsRefuse", spec := "flowsRefuse", inPlace := ["internal/reflectlite.TypeOf", "internal/reflectlite.ValueOf", "(internal/reflectlite.Value).Type", "(internal/reflectlite.Value).IsNil", "(internal/reflectlite.Value).Elem", "(internal/reflectlite.Value).Set"], unfollowed := true, recurses := true, named := ["errors.errorType"], apart := false, laid := [("errors.errorType", laid_errors_errorType)], narrowed := true }
def FlowsRefuseUptoSaid : Prop := flowsRefuseUptoRow.holds Tryd.pinned (OpenSpec.upto flowsRefuseSpec)

/-- 'stockadelaw26.FlowsEnds', WHERE WHAT IT READS IS OF BULK AT MOST 1048576: true; the input reads as it did. -/
def flowsEndsUptoRow : OpenClaim := { program := "ytepaanpdjadakaadoor", sum := "09de0c8d6041982fe58e31c861a88431f39ecd67c4f71279f4ba92c8639906be", func := "stockade/stockadelaw26.FlowsEnds", spec := "flowsEnds", inPlace := ["internal/reflectlite.TypeOf", "internal/reflectlite.ValueOf", "(internal/reflectlite.Value).Type", "(internal/reflectlite.Value).IsNil", "(internal/reflectlite.Value).Elem", "(internal/reflectlite.Value).Set"], unfollowed := true, recurses := true, named := ["errors.errorType"], apart := false, laid := [("errors.errorType", laid_errors_errorType)], narrowed := true }
def FlowsEndsUptoSaid : Prop := flowsEndsUptoRow.holds Tryd.pinned (OpenSpec.upto flowsEndsSpec)

/-- 'stockadelaw26.FlowsBegin', WHERE WHAT IT READS IS OF BULK AT MOST 1048576: true; the input reads as it did. -/
def flowsBeginUptoRow : OpenClaim := { program := "ytepaanpdjadakaadoor", sum := "09de0c8d6041982fe58e31c861a88431f39ecd67c4f71279f4ba92c8639906be", func := "stockade/stockadelaw26.FlowsBegin", spec := "flowsBegin", inPlace := ["internal/reflectlite.TypeOf", "internal/reflectlite.ValueOf", "(internal/reflectlite.Value).Type", "(internal/reflectlite.Value).IsNil", "(internal/reflectlite.Value).Elem", "(internal/reflectlite.Value).Set"], unfollowed := true, recurses := true, named := ["errors.errorType"], apart := false, laid := [("errors.errorType", laid_errors_errorType)], narrowed := true }
def FlowsBeginUptoSaid : Prop := flowsBeginUptoRow.holds Tryd.pinned (OpenSpec.upto flowsBeginSpec)

end Rows
end Go.Proofs.YtepaanpdjadakaaDoor
