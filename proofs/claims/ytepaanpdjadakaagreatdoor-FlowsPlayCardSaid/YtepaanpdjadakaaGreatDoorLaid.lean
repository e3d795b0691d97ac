import Derived.Test.YtepaanpdjadakaaGreatDoorRows
import Derived.Test.YtepaanpdjadakaaGreatDoorErr
import Derived.ChangeSame
import Derived.ChangeVars
import Derived.JoinedOf
import Derived.RowKit
import Derived.RowKitTokens
import Derived.LaidLaws
import Derived.LaidHandle
import Derived.Stop.Joined
/-! The library's variable that the rows list: from the condition to its cell; a world that meets the condition. -/
namespace Go.Proofs.YtepaanpdjadakaaGreatDoor
open Go.ChangeShapes Go.WideShapes Go.RowKit

def laidL {H : Type} : List (String × DataW H) := [("errors.errorType", Rows.laid_errors_errorType)]
theorem et_global : Tryz.prog.globalNamed "errors.errorType" = some 0 := by kernel_rfl
theorem et_rtype : (Tryz.prog.cutTypes.find? (·.1 == "internal/reflectlite.rtype")).map (·.2) = some 145 := by kernel_rfl
theorem et_oneRow : ((List.range (296 - 100)).filter fun t => Tryz.prog.rowNamed t [101, 114, 114, 111, 114]) = [48] := by kernel_rfl
theorem et_size : Tryz.prog.types.size = 296 - 100 := by kernel_rfl
theorem et_of_laid {W : World} (h : laidMetH Tryz.prog laidL W) : Et W := by
  have h' : laidMet Tryz.prog [] W ∧ handlesMet Tryz.prog laidL W := h
  obtain ⟨name, u, ty, e1, e2, e3, e4, e5⟩ := h'.2 _ (List.mem_singleton.2 rfl)
  have en : name = [101, 114, 114, 111, 114] := (Option.some.inj e1).symm
  subst en
  obtain rfl := Option.some.inj (et_rtype.symm.trans e2)
  have hm : ty ∈ (List.range (296 - 100)).filter fun t => Tryz.prog.rowNamed t [101, 114, 114, 111, 114] := List.mem_filter.2 ⟨List.mem_range.2 (by rw [← et_size]; exact e3), e4⟩
  rw [et_oneRow] at hm
  obtain rfl := List.mem_singleton.1 hm
  have hh : typeHandle Tryz.prog 48 = .pointer (some ⟨1, 48, none⟩) := by kernel_rfl
  rw [hh] at e5
  unfold Et
  simpa using World.var?_cell et_global e5 0
/-- A world that meets the condition: the settled one, the variable's cell laid. -/
noncomputable def laidWorld (os : Os) : World :=
  let w0 := World.holding Tryz.prog os ⟨#[], #[], []⟩
  { w0 with heap := w0.heap.modify 0 fun
      | .cells _ t frozen => .cells #[.iface 145 (.agg #[.pointer (some ⟨1, 48, none⟩)])] t frozen
      | o => o }
theorem laidWorld_met (os : Os) (args : Array Value) : laidMetH Tryz.prog laidL ((laidWorld os).forCall (fun _ _ => 0) ⟨#[], args, []⟩).memory :=
  laidMetH_of_parts (laidMet_nil _ _) (by kernel_rfl)
end Go.Proofs.YtepaanpdjadakaaGreatDoor
