import Derived.Test.YtepaanpdjadakaaGreatDoorArr2
import Derived.Test.YtepaanpdjadakaaGreatDoorExp8
/-! Errors as the help has them; stores of one cell. -/
namespace Go.Proofs.YtepaanpdjadakaaGreatDoor
open Go Go.RowKit

attribute [local irreducible] wpOrd
section
variable {B : Nat} {w0 w w' : World} {F : HP} {b : Nat} {n : Int} {S : List Ent} {v : Value}
def zeroFail : Array Value := #[.int .i64 0, .int .i64 0, .bool false]
theorem fail_store {x : Nat} {c : Int} {cur : Array Value} (hS : Sat B w0 w (blk x (.cells cur 52) • F)) (hc : cur.size = 3) : ∃ W, (Instr.storeAt 52 (.pointer (some ⟨x, 0, none⟩)) (failV c)).run Tryz.prog w = .ok () W ∧ Sat B w0 W (blk x (.cells #[.int .i64 c, .int .i64 0, .bool false] 52) • F) := by
  have hst := run_storeAt_row (P := Tryz.prog) (o := 0) (ty := 52) (v := failV c) hS.heap (by kernel_rfl) (by simp [failV, Value.cells, hc]) (by simp [failV, Value.cells, Value.oneCell'])
  have hS2 := hS.setRow (cs := splice cur 0 (failV c).cells.toList)
  refine ⟨_, hst, ?_⟩
  rw [splice_all (by simp [failV, Value.cells, hc])] at hS2 ⊢
  exact hS2
theorem fail_load {x : Nat} {c : Int} (hS : Sat B w0 w (blk x (.cells #[.int .i64 c, .int .i64 0, .bool false] 52) • F)) : (Instr.loadAt 52 (.pointer (some ⟨x, 0, none⟩))).run Tryz.prog w = .ok (failV c) w :=
  run_loadAt_row (cs := [.int .i64 c, .int .i64 0, .bool false]) hS.heap Tryz.underlying52 rfl (by kernel_rfl) (fun j u hu => by simpa using hu)
theorem one_store {x o : Nat} {cur : Array Value} {t ty : TypeId} {u : Value} (hS : Sat B w0 w (blk x (.cells cur t) • F)) (hi : (Tryz.prog.info? ty).map (·.size) = some 1) (ho : o < cur.size) (hu : u.oneCell' = true) (hc : u.cells = #[u]) :
    ∃ W, (Instr.storeAt ty (.pointer (some ⟨x, o, none⟩)) u).run Tryz.prog w = .ok () W ∧ Sat B w0 W (blk x (.cells (cur.setIfInBounds o u) t) • F) := by
  have hst := run_storeAt_row (P := Tryz.prog) (o := o) (ty := ty) (v := u) hS.heap (by rw [hi, hc]; rfl) (by rw [hc]; simp; omega) (by rw [hc]; simpa using hu)
  have hS2 := hS.setRow (cs := splice cur o u.cells.toList)
  refine ⟨_, hst, ?_⟩
  rw [hc] at hS2 ⊢
  rw [show (#[u] : Array Value).toList = [u] from rfl, splice_one ho] at hS2 ⊢
  exact hS2
theorem entry_zero' : (Tryz.prog.info? 113).map (fun i => (i.zero, i.size, i.bytes)) = some (some (.agg #[.int .i64 0, .int .u64 0]), 2, 16) := by kernel_rfl
theorem entry_zero2' : (Tryz.prog.info? 113).map (fun i => (i.zero, i.size)) = some (some (.agg #[.int .i64 0, .int .u64 0]), 2) := by kernel_rfl
theorem flat_one (S : List Ent) : ∀ u ∈ S.flatMap Ent.enc, u.oneCell' = true := by
  intro u hu
  rw [List.mem_flatMap] at hu
  obtain ⟨x, _, hu⟩ := hu
  exact Ent.enc_one x u hu
theorem flat_ent_length (S : List Ent) : (S.flatMap Ent.enc).length = S.length * 2 := flat_length Ent.enc_length S
end
end Go.Proofs.YtepaanpdjadakaaGreatDoor
