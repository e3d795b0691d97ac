import Derived.Test.YtdcekoocnoackaaGreatDoorPart16
import Derived.Test.YtdcekoocnoackaaGreatDoorPart12
import Derived.Test.YtdcekoocnoackaaGreatDoorPart11

/-! bits: New, and Add of one prefix. -/
namespace Go.Proofs.YtdcekoocnoackaaGreatDoor
open Go Go.RowKit

section
variable {B : Nat} {w0 w : World} {F A1 A2 A3 A4 A5 : HP}
theorem Sat.rot3 (h : Sat B w0 w (A1 • A2 • A3 • F)) : Sat B w0 w (A2 • A3 • A1 • F) := h.to (by ac_rfl)
theorem Sat.mx {w : World} (h : Sat B w0 w F) (hB : 1 < B) (hM : Mx w0) : Mx w := by
  obtain ⟨m, hm⟩ := hM
  exact ⟨m, by rw [h.below.cell hB]; exact hm⟩
end
set_option maxRecDepth 8000 in
set_option maxHeartbeats 1000000 in
theorem bbit_0 (d : Int) (w : World) : Calls Tryz.prog 139 #[.agg #[.bool false, .int .u8 10, .int .u8 0, .int .u8 0, .int .u8 d, .int .u8 0, .int .u8 0, .int .u8 0, .int .u8 0, .int .u8 0, .int .u8 0, .int .u8 0, .int .u8 0, .int .u8 0, .int .u8 0, .int .u8 0, .int .u8 0], .int .i64 0] w fun e w' => e = .returned (.int .u8 0) ∧ Below w.heap.size w w' := by
  have hS := (Sat.start w).alloc (.cells #[.bool false, .int .u8 10, .int .u8 0, .int .u8 0, .int .u8 d, .int .u8 0, .int .u8 0, .int .u8 0, .int .u8 0, .int .u8 0, .int .u8 0, .int .u8 0, .int .u8 0, .int .u8 0, .int .u8 0, .int .u8 0, .int .u8 0] 36)
  have hB := hS.below
  have d0 : (w.alloc (.cells #[.bool false, .int .u8 10, .int .u8 0, .int .u8 0, .int .u8 d, .int .u8 0, .int .u8 0, .int .u8 0, .int .u8 0, .int .u8 0, .int .u8 0, .int .u8 0, .int .u8 0, .int .u8 0, .int .u8 0, .int .u8 0, .int .u8 0] 36)).cell? ⟨w.heap.size, 1, none⟩ = some (.int .u8 10) := cell_heap hS.heap rfl
  generalize hW : w.alloc (.cells #[.bool false, .int .u8 10, .int .u8 0, .int .u8 0, .int .u8 d, .int .u8 0, .int .u8 0, .int .u8 0, .int .u8 0, .int .u8 0, .int .u8 0, .int .u8 0, .int .u8 0, .int .u8 0, .int .u8 0, .int .u8 0, .int .u8 0] 36) = W1 at *
  clear hS
  go_enter Tryz.func139, Tryz.ntmps139
  go_wp2_with fail
  go_ret
  exact ⟨rfl, hB⟩
set_option maxRecDepth 8000 in
set_option maxHeartbeats 1000000 in
theorem bbit_1 (d : Int) (w : World) : Calls Tryz.prog 139 #[.agg #[.bool false, .int .u8 10, .int .u8 0, .int .u8 0, .int .u8 d, .int .u8 0, .int .u8 0, .int .u8 0, .int .u8 0, .int .u8 0, .int .u8 0, .int .u8 0, .int .u8 0, .int .u8 0, .int .u8 0, .int .u8 0, .int .u8 0], .int .i64 1] w fun e w' => e = .returned (.int .u8 0) ∧ Below w.heap.size w w' := by
  have hS := (Sat.start w).alloc (.cells #[.bool false, .int .u8 10, .int .u8 0, .int .u8 0, .int .u8 d, .int .u8 0, .int .u8 0, .int .u8 0, .int .u8 0, .int .u8 0, .int .u8 0, .int .u8 0, .int .u8 0, .int .u8 0, .int .u8 0, .int .u8 0, .int .u8 0] 36)
  have hB := hS.below
  have d0 : (w.alloc (.cells #[.bool false, .int .u8 10, .int .u8 0, .int .u8 0, .int .u8 d, .int .u8 0, .int .u8 0, .int .u8 0, .int .u8 0, .int .u8 0, .int .u8 0, .int .u8 0, .int .u8 0, .int .u8 0, .int .u8 0, .int .u8 0, .int .u8 0] 36)).cell? ⟨w.heap.size, 1, none⟩ = some (.int .u8 10) := cell_heap hS.heap rfl
  generalize hW : w.alloc (.cells #[.bool false, .int .u8 10, .int .u8 0, .int .u8 0, .int .u8 d, .int .u8 0, .int .u8 0, .int .u8 0, .int .u8 0, .int .u8 0, .int .u8 0, .int .u8 0, .int .u8 0, .int .u8 0, .int .u8 0, .int .u8 0, .int .u8 0] 36) = W1 at *
  clear hS
  go_enter Tryz.func139, Tryz.ntmps139
  go_wp2_with fail
  go_ret
  exact ⟨rfl, hB⟩
set_option maxRecDepth 8000 in
set_option maxHeartbeats 1000000 in
theorem bbit_2 (d : Int) (w : World) : Calls Tryz.prog 139 #[.agg #[.bool false, .int .u8 10, .int .u8 0, .int .u8 0, .int .u8 d, .int .u8 0, .int .u8 0, .int .u8 0, .int .u8 0, .int .u8 0, .int .u8 0, .int .u8 0, .int .u8 0, .int .u8 0, .int .u8 0, .int .u8 0, .int .u8 0], .int .i64 2] w fun e w' => e = .returned (.int .u8 0) ∧ Below w.heap.size w w' := by
  have hS := (Sat.start w).alloc (.cells #[.bool false, .int .u8 10, .int .u8 0, .int .u8 0, .int .u8 d, .int .u8 0, .int .u8 0, .int .u8 0, .int .u8 0, .int .u8 0, .int .u8 0, .int .u8 0, .int .u8 0, .int .u8 0, .int .u8 0, .int .u8 0, .int .u8 0] 36)
  have hB := hS.below
  have d0 : (w.alloc (.cells #[.bool false, .int .u8 10, .int .u8 0, .int .u8 0, .int .u8 d, .int .u8 0, .int .u8 0, .int .u8 0, .int .u8 0, .int .u8 0, .int .u8 0, .int .u8 0, .int .u8 0, .int .u8 0, .int .u8 0, .int .u8 0, .int .u8 0] 36)).cell? ⟨w.heap.size, 1, none⟩ = some (.int .u8 10) := cell_heap hS.heap rfl
  generalize hW : w.alloc (.cells #[.bool false, .int .u8 10, .int .u8 0, .int .u8 0, .int .u8 d, .int .u8 0, .int .u8 0, .int .u8 0, .int .u8 0, .int .u8 0, .int .u8 0, .int .u8 0, .int .u8 0, .int .u8 0, .int .u8 0, .int .u8 0, .int .u8 0] 36) = W1 at *
  clear hS
  go_enter Tryz.func139, Tryz.ntmps139
  go_wp2_with fail
  go_ret
  exact ⟨rfl, hB⟩
set_option maxRecDepth 8000 in
set_option maxHeartbeats 1000000 in
theorem bbit_3 (d : Int) (w : World) : Calls Tryz.prog 139 #[.agg #[.bool false, .int .u8 10, .int .u8 0, .int .u8 0, .int .u8 d, .int .u8 0, .int .u8 0, .int .u8 0, .int .u8 0, .int .u8 0, .int .u8 0, .int .u8 0, .int .u8 0, .int .u8 0, .int .u8 0, .int .u8 0, .int .u8 0], .int .i64 3] w fun e w' => e = .returned (.int .u8 0) ∧ Below w.heap.size w w' := by
  have hS := (Sat.start w).alloc (.cells #[.bool false, .int .u8 10, .int .u8 0, .int .u8 0, .int .u8 d, .int .u8 0, .int .u8 0, .int .u8 0, .int .u8 0, .int .u8 0, .int .u8 0, .int .u8 0, .int .u8 0, .int .u8 0, .int .u8 0, .int .u8 0, .int .u8 0] 36)
  have hB := hS.below
  have d0 : (w.alloc (.cells #[.bool false, .int .u8 10, .int .u8 0, .int .u8 0, .int .u8 d, .int .u8 0, .int .u8 0, .int .u8 0, .int .u8 0, .int .u8 0, .int .u8 0, .int .u8 0, .int .u8 0, .int .u8 0, .int .u8 0, .int .u8 0, .int .u8 0] 36)).cell? ⟨w.heap.size, 1, none⟩ = some (.int .u8 10) := cell_heap hS.heap rfl
  generalize hW : w.alloc (.cells #[.bool false, .int .u8 10, .int .u8 0, .int .u8 0, .int .u8 d, .int .u8 0, .int .u8 0, .int .u8 0, .int .u8 0, .int .u8 0, .int .u8 0, .int .u8 0, .int .u8 0, .int .u8 0, .int .u8 0, .int .u8 0, .int .u8 0] 36) = W1 at *
  clear hS
  go_enter Tryz.func139, Tryz.ntmps139
  go_wp2_with fail
  go_ret
  exact ⟨rfl, hB⟩
set_option maxRecDepth 8000 in
set_option maxHeartbeats 1000000 in
theorem bbit_4 (d : Int) (w : World) : Calls Tryz.prog 139 #[.agg #[.bool false, .int .u8 10, .int .u8 0, .int .u8 0, .int .u8 d, .int .u8 0, .int .u8 0, .int .u8 0, .int .u8 0, .int .u8 0, .int .u8 0, .int .u8 0, .int .u8 0, .int .u8 0, .int .u8 0, .int .u8 0, .int .u8 0], .int .i64 4] w fun e w' => e = .returned (.int .u8 1) ∧ Below w.heap.size w w' := by
  have hS := (Sat.start w).alloc (.cells #[.bool false, .int .u8 10, .int .u8 0, .int .u8 0, .int .u8 d, .int .u8 0, .int .u8 0, .int .u8 0, .int .u8 0, .int .u8 0, .int .u8 0, .int .u8 0, .int .u8 0, .int .u8 0, .int .u8 0, .int .u8 0, .int .u8 0] 36)
  have hB := hS.below
  have d0 : (w.alloc (.cells #[.bool false, .int .u8 10, .int .u8 0, .int .u8 0, .int .u8 d, .int .u8 0, .int .u8 0, .int .u8 0, .int .u8 0, .int .u8 0, .int .u8 0, .int .u8 0, .int .u8 0, .int .u8 0, .int .u8 0, .int .u8 0, .int .u8 0] 36)).cell? ⟨w.heap.size, 1, none⟩ = some (.int .u8 10) := cell_heap hS.heap rfl
  generalize hW : w.alloc (.cells #[.bool false, .int .u8 10, .int .u8 0, .int .u8 0, .int .u8 d, .int .u8 0, .int .u8 0, .int .u8 0, .int .u8 0, .int .u8 0, .int .u8 0, .int .u8 0, .int .u8 0, .int .u8 0, .int .u8 0, .int .u8 0, .int .u8 0] 36) = W1 at *
  clear hS
  go_enter Tryz.func139, Tryz.ntmps139
  go_wp2_with fail
  go_ret
  exact ⟨rfl, hB⟩
set_option maxRecDepth 8000 in
set_option maxHeartbeats 1000000 in
theorem bbit_5 (d : Int) (w : World) : Calls Tryz.prog 139 #[.agg #[.bool false, .int .u8 10, .int .u8 0, .int .u8 0, .int .u8 d, .int .u8 0, .int .u8 0, .int .u8 0, .int .u8 0, .int .u8 0, .int .u8 0, .int .u8 0, .int .u8 0, .int .u8 0, .int .u8 0, .int .u8 0, .int .u8 0], .int .i64 5] w fun e w' => e = .returned (.int .u8 0) ∧ Below w.heap.size w w' := by
  have hS := (Sat.start w).alloc (.cells #[.bool false, .int .u8 10, .int .u8 0, .int .u8 0, .int .u8 d, .int .u8 0, .int .u8 0, .int .u8 0, .int .u8 0, .int .u8 0, .int .u8 0, .int .u8 0, .int .u8 0, .int .u8 0, .int .u8 0, .int .u8 0, .int .u8 0] 36)
  have hB := hS.below
  have d0 : (w.alloc (.cells #[.bool false, .int .u8 10, .int .u8 0, .int .u8 0, .int .u8 d, .int .u8 0, .int .u8 0, .int .u8 0, .int .u8 0, .int .u8 0, .int .u8 0, .int .u8 0, .int .u8 0, .int .u8 0, .int .u8 0, .int .u8 0, .int .u8 0] 36)).cell? ⟨w.heap.size, 1, none⟩ = some (.int .u8 10) := cell_heap hS.heap rfl
  generalize hW : w.alloc (.cells #[.bool false, .int .u8 10, .int .u8 0, .int .u8 0, .int .u8 d, .int .u8 0, .int .u8 0, .int .u8 0, .int .u8 0, .int .u8 0, .int .u8 0, .int .u8 0, .int .u8 0, .int .u8 0, .int .u8 0, .int .u8 0, .int .u8 0] 36) = W1 at *
  clear hS
  go_enter Tryz.func139, Tryz.ntmps139
  go_wp2_with fail
  go_ret
  exact ⟨rfl, hB⟩
set_option maxRecDepth 8000 in
set_option maxHeartbeats 1000000 in
theorem bbit_6 (d : Int) (w : World) : Calls Tryz.prog 139 #[.agg #[.bool false, .int .u8 10, .int .u8 0, .int .u8 0, .int .u8 d, .int .u8 0, .int .u8 0, .int .u8 0, .int .u8 0, .int .u8 0, .int .u8 0, .int .u8 0, .int .u8 0, .int .u8 0, .int .u8 0, .int .u8 0, .int .u8 0], .int .i64 6] w fun e w' => e = .returned (.int .u8 1) ∧ Below w.heap.size w w' := by
  have hS := (Sat.start w).alloc (.cells #[.bool false, .int .u8 10, .int .u8 0, .int .u8 0, .int .u8 d, .int .u8 0, .int .u8 0, .int .u8 0, .int .u8 0, .int .u8 0, .int .u8 0, .int .u8 0, .int .u8 0, .int .u8 0, .int .u8 0, .int .u8 0, .int .u8 0] 36)
  have hB := hS.below
  have d0 : (w.alloc (.cells #[.bool false, .int .u8 10, .int .u8 0, .int .u8 0, .int .u8 d, .int .u8 0, .int .u8 0, .int .u8 0, .int .u8 0, .int .u8 0, .int .u8 0, .int .u8 0, .int .u8 0, .int .u8 0, .int .u8 0, .int .u8 0, .int .u8 0] 36)).cell? ⟨w.heap.size, 1, none⟩ = some (.int .u8 10) := cell_heap hS.heap rfl
  generalize hW : w.alloc (.cells #[.bool false, .int .u8 10, .int .u8 0, .int .u8 0, .int .u8 d, .int .u8 0, .int .u8 0, .int .u8 0, .int .u8 0, .int .u8 0, .int .u8 0, .int .u8 0, .int .u8 0, .int .u8 0, .int .u8 0, .int .u8 0, .int .u8 0] 36) = W1 at *
  clear hS
  go_enter Tryz.func139, Tryz.ntmps139
  go_wp2_with fail
  go_ret
  exact ⟨rfl, hB⟩
set_option maxRecDepth 8000 in
set_option maxHeartbeats 1000000 in
theorem bbit_7 (d : Int) (w : World) : Calls Tryz.prog 139 #[.agg #[.bool false, .int .u8 10, .int .u8 0, .int .u8 0, .int .u8 d, .int .u8 0, .int .u8 0, .int .u8 0, .int .u8 0, .int .u8 0, .int .u8 0, .int .u8 0, .int .u8 0, .int .u8 0, .int .u8 0, .int .u8 0, .int .u8 0], .int .i64 7] w fun e w' => e = .returned (.int .u8 0) ∧ Below w.heap.size w w' := by
  have hS := (Sat.start w).alloc (.cells #[.bool false, .int .u8 10, .int .u8 0, .int .u8 0, .int .u8 d, .int .u8 0, .int .u8 0, .int .u8 0, .int .u8 0, .int .u8 0, .int .u8 0, .int .u8 0, .int .u8 0, .int .u8 0, .int .u8 0, .int .u8 0, .int .u8 0] 36)
  have hB := hS.below
  have d0 : (w.alloc (.cells #[.bool false, .int .u8 10, .int .u8 0, .int .u8 0, .int .u8 d, .int .u8 0, .int .u8 0, .int .u8 0, .int .u8 0, .int .u8 0, .int .u8 0, .int .u8 0, .int .u8 0, .int .u8 0, .int .u8 0, .int .u8 0, .int .u8 0] 36)).cell? ⟨w.heap.size, 1, none⟩ = some (.int .u8 10) := cell_heap hS.heap rfl
  generalize hW : w.alloc (.cells #[.bool false, .int .u8 10, .int .u8 0, .int .u8 0, .int .u8 d, .int .u8 0, .int .u8 0, .int .u8 0, .int .u8 0, .int .u8 0, .int .u8 0, .int .u8 0, .int .u8 0, .int .u8 0, .int .u8 0, .int .u8 0, .int .u8 0] 36) = W1 at *
  clear hS
  go_enter Tryz.func139, Tryz.ntmps139
  go_wp2_with fail
  go_ret
  exact ⟨rfl, hB⟩
set_option maxRecDepth 8000 in
set_option maxHeartbeats 1000000 in
theorem bbit_8 (d : Int) (w : World) : Calls Tryz.prog 139 #[.agg #[.bool false, .int .u8 10, .int .u8 0, .int .u8 0, .int .u8 d, .int .u8 0, .int .u8 0, .int .u8 0, .int .u8 0, .int .u8 0, .int .u8 0, .int .u8 0, .int .u8 0, .int .u8 0, .int .u8 0, .int .u8 0, .int .u8 0], .int .i64 8] w fun e w' => e = .returned (.int .u8 0) ∧ Below w.heap.size w w' := by
  have hS := (Sat.start w).alloc (.cells #[.bool false, .int .u8 10, .int .u8 0, .int .u8 0, .int .u8 d, .int .u8 0, .int .u8 0, .int .u8 0, .int .u8 0, .int .u8 0, .int .u8 0, .int .u8 0, .int .u8 0, .int .u8 0, .int .u8 0, .int .u8 0, .int .u8 0] 36)
  have hB := hS.below
  have d0 : (w.alloc (.cells #[.bool false, .int .u8 10, .int .u8 0, .int .u8 0, .int .u8 d, .int .u8 0, .int .u8 0, .int .u8 0, .int .u8 0, .int .u8 0, .int .u8 0, .int .u8 0, .int .u8 0, .int .u8 0, .int .u8 0, .int .u8 0, .int .u8 0] 36)).cell? ⟨w.heap.size, 2, none⟩ = some (.int .u8 0) := cell_heap hS.heap rfl
  generalize hW : w.alloc (.cells #[.bool false, .int .u8 10, .int .u8 0, .int .u8 0, .int .u8 d, .int .u8 0, .int .u8 0, .int .u8 0, .int .u8 0, .int .u8 0, .int .u8 0, .int .u8 0, .int .u8 0, .int .u8 0, .int .u8 0, .int .u8 0, .int .u8 0] 36) = W1 at *
  clear hS
  go_enter Tryz.func139, Tryz.ntmps139
  go_wp2_with fail
  go_ret
  exact ⟨rfl, hB⟩
set_option maxRecDepth 8000 in
set_option maxHeartbeats 1000000 in
theorem bitsNew {B : Nat} {w0 w : World} {F : HP} (h : Sat B w0 w F) : Calls Tryz.prog 68 #[] w fun e w' => ∃ tb n4 n6 : Nat, e = .returned (.pointer (some ⟨tb, 0, none⟩)) ∧ Sat B w0 w' (blk tb (.cells #[.pointer (some ⟨n4, 0, none⟩), .pointer (some ⟨n6, 0, none⟩), .int .i64 0] 284) • blk n6 (.cells #[.slice none 0 0, .pointer none, .pointer none] 282) • blk n4 (.cells #[.slice none 0 0, .pointer none, .pointer none] 282) • F) := by
  have hS := ((h.alloc (.cells #[.slice none 0 0, .pointer none, .pointer none] 282)).alloc (.cells #[.slice none 0 0, .pointer none, .pointer none] 282)).alloc (.cells #[.pointer (some ⟨w.heap.size, 0, none⟩), .pointer (some ⟨(w.alloc (.cells #[.slice none 0 0, .pointer none, .pointer none] 282)).heap.size, 0, none⟩), .int .i64 0] 284)
  simp only [World.size_alloc] at hS
  go_enter Tryz.func68, Tryz.ntmps68
  go_wp2_with fail
  go_ret
  exact ⟨_, _, _, rfl, hS⟩
set_option maxRecDepth 8000 in
set_option maxHeartbeats 1000000 in
theorem top_4 {tb n4 : Nat} {w : World} (h : w.cell? ⟨tb, 0, none⟩ = some (.pointer (some ⟨n4, 0, none⟩))) : Calls Tryz.prog 138 #[.pointer (some ⟨tb, 0, none⟩), .bool false] w fun e w' => e = .returned (.pointer (some ⟨n4, 0, none⟩)) ∧ w' = w := by
  go_enter Tryz.func138, Tryz.ntmps138
  go_wp2_with fail
  go_ret
  exact ⟨rfl, rfl⟩
set_option maxRecDepth 8000 in
set_option maxHeartbeats 1000000 in
theorem ask_8 (tb : Nat) (w : World) : Calls Tryz.prog 136 #[.pointer (some ⟨tb, 0, none⟩), .agg #[.bool false, .int .u8 10, .int .u8 0, .int .u8 0, .int .u8 0, .int .u8 0, .int .u8 0, .int .u8 0, .int .u8 0, .int .u8 0, .int .u8 0, .int .u8 0, .int .u8 0, .int .u8 0, .int .u8 0, .int .u8 0, .int .u8 0, .int .i64 8]] w fun e w' => e = .returned .nilIface ∧ Below w.heap.size w w' := by
  have hS := (Sat.start w).alloc (.cells #[.bool false, .int .u8 10, .int .u8 0, .int .u8 0, .int .u8 0, .int .u8 0, .int .u8 0, .int .u8 0, .int .u8 0, .int .u8 0, .int .u8 0, .int .u8 0, .int .u8 0, .int .u8 0, .int .u8 0, .int .u8 0, .int .u8 0, .int .i64 8] 168)
  have hB := hS.below
  have hl : (Instr.loadAt 168 (.pointer (some ⟨w.heap.size, 0, none⟩))).run Tryz.prog (w.alloc (.cells #[.bool false, .int .u8 10, .int .u8 0, .int .u8 0, .int .u8 0, .int .u8 0, .int .u8 0, .int .u8 0, .int .u8 0, .int .u8 0, .int .u8 0, .int .u8 0, .int .u8 0, .int .u8 0, .int .u8 0, .int .u8 0, .int .u8 0, .int .i64 8] 168)) = .ok (.agg #[.bool false, .int .u8 10, .int .u8 0, .int .u8 0, .int .u8 0, .int .u8 0, .int .u8 0, .int .u8 0, .int .u8 0, .int .u8 0, .int .u8 0, .int .u8 0, .int .u8 0, .int .u8 0, .int .u8 0, .int .u8 0, .int .u8 0, .int .i64 8]) (w.alloc (.cells #[.bool false, .int .u8 10, .int .u8 0, .int .u8 0, .int .u8 0, .int .u8 0, .int .u8 0, .int .u8 0, .int .u8 0, .int .u8 0, .int .u8 0, .int .u8 0, .int .u8 0, .int .u8 0, .int .u8 0, .int .u8 0, .int .u8 0, .int .i64 8] 168)) :=
    run_loadAt_row (cs := [.bool false, .int .u8 10, .int .u8 0, .int .u8 0, .int .u8 0, .int .u8 0, .int .u8 0, .int .u8 0, .int .u8 0, .int .u8 0, .int .u8 0, .int .u8 0, .int .u8 0, .int .u8 0, .int .u8 0, .int .u8 0, .int .u8 0, .int .i64 8]) hS.heap Tryz.underlying168 rfl (by kernel_rfl) (fun j u hu => by simpa using hu)
  generalize hW : w.alloc (.cells #[.bool false, .int .u8 10, .int .u8 0, .int .u8 0, .int .u8 0, .int .u8 0, .int .u8 0, .int .u8 0, .int .u8 0, .int .u8 0, .int .u8 0, .int .u8 0, .int .u8 0, .int .u8 0, .int .u8 0, .int .u8 0, .int .u8 0, .int .i64 8] 168) = W1 at *
  clear hS
  have c1 := rightNet_8 W1
  go_enter Tryz.func136, Tryz.ntmps136
  go_wp2_with (refine wpList_load_run (t := 168) rfl rfl rfl hl (stop_ ?_))
  unfold Stop
  go_wp2_with fail
  refine c1.mono ?_
  rintro e w2 ⟨rfl, hb2⟩
  go_wp2_with fail
  go_ret
  exact ⟨rfl, hB.trans (hb2.mono hB.size)⟩
/-- The nodes of one prefix. -/
def chain8 (x0 x1 x2 x3 x4 x5 x6 x7 x8 : Nat) (ids : Value) : HP := blk x8 (.cells #[ids, .pointer none, .pointer none] 282) • blk x7 (.cells #[.slice none 0 0, .pointer (some ⟨x8, 0, none⟩), .pointer none] 282) • blk x6 (.cells #[.slice none 0 0, .pointer none, .pointer (some ⟨x7, 0, none⟩)] 282) • blk x5 (.cells #[.slice none 0 0, .pointer (some ⟨x6, 0, none⟩), .pointer none] 282) • blk x4 (.cells #[.slice none 0 0, .pointer none, .pointer (some ⟨x5, 0, none⟩)] 282) • blk x3 (.cells #[.slice none 0 0, .pointer (some ⟨x4, 0, none⟩), .pointer none] 282) • blk x2 (.cells #[.slice none 0 0, .pointer (some ⟨x3, 0, none⟩), .pointer none] 282) • blk x1 (.cells #[.slice none 0 0, .pointer (some ⟨x2, 0, none⟩), .pointer none] 282) • blk x0 (.cells #[.slice none 0 0, .pointer (some ⟨x1, 0, none⟩), .pointer none] 282)
attribute [local irreducible] wpOrd
set_option maxRecDepth 8000 in
set_option maxHeartbeats 8000000 in
theorem bitsAdd_8 {B : Nat} {w0 w : World} {F : HP} {tb x0 n6 : Nat} (h : Sat B w0 w (blk tb (.cells #[.pointer (some ⟨x0, 0, none⟩), .pointer (some ⟨n6, 0, none⟩), .int .i64 0] 284) • blk x0 (.cells #[.slice none 0 0, .pointer none, .pointer none] 282) • F)) (hE : Et w) :
    Calls Tryz.prog 70 #[.pointer (some ⟨tb, 0, none⟩), .agg #[.bool false, .int .u8 10, .int .u8 0, .int .u8 0, .int .u8 0, .int .u8 0, .int .u8 0, .int .u8 0, .int .u8 0, .int .u8 0, .int .u8 0, .int .u8 0, .int .u8 0, .int .u8 0, .int .u8 0, .int .u8 0, .int .u8 0, .int .i64 8], .int .i64 2] w fun e w' => e = .returned .nilIface ∧ ∃ A c x1 x2 x3 x4 x5 x6 x7 x8, Sat B w0 w' (arr 3 1 (.slice A 1 c) 1 [.int .i64 2] • blk tb (.cells #[.pointer (some ⟨x0, 0, none⟩), .pointer (some ⟨n6, 0, none⟩), .int .i64 1] 284) • chain8 x0 x1 x2 x3 x4 x5 x6 x7 x8 (.slice A 1 c) • F) := by
  have hS := h.alloc (.cells #[.bool false, .int .u8 10, .int .u8 0, .int .u8 0, .int .u8 0, .int .u8 0, .int .u8 0, .int .u8 0, .int .u8 0, .int .u8 0, .int .u8 0, .int .u8 0, .int .u8 0, .int .u8 0, .int .u8 0, .int .u8 0, .int .u8 0, .int .i64 8] 168)
  have hE1 := hE.below ((Below.refl _ _).alloc (Nat.le_refl _) (.cells #[.bool false, .int .u8 10, .int .u8 0, .int .u8 0, .int .u8 0, .int .u8 0, .int .u8 0, .int .u8 0, .int .u8 0, .int .u8 0, .int .u8 0, .int .u8 0, .int .u8 0, .int .u8 0, .int .u8 0, .int .u8 0, .int .u8 0, .int .i64 8] 168))
  have hl : (Instr.loadAt 168 (.pointer (some ⟨w.heap.size, 0, none⟩))).run Tryz.prog (w.alloc (.cells #[.bool false, .int .u8 10, .int .u8 0, .int .u8 0, .int .u8 0, .int .u8 0, .int .u8 0, .int .u8 0, .int .u8 0, .int .u8 0, .int .u8 0, .int .u8 0, .int .u8 0, .int .u8 0, .int .u8 0, .int .u8 0, .int .u8 0, .int .i64 8] 168)) = .ok (.agg #[.bool false, .int .u8 10, .int .u8 0, .int .u8 0, .int .u8 0, .int .u8 0, .int .u8 0, .int .u8 0, .int .u8 0, .int .u8 0, .int .u8 0, .int .u8 0, .int .u8 0, .int .u8 0, .int .u8 0, .int .u8 0, .int .u8 0, .int .i64 8]) (w.alloc (.cells #[.bool false, .int .u8 10, .int .u8 0, .int .u8 0, .int .u8 0, .int .u8 0, .int .u8 0, .int .u8 0, .int .u8 0, .int .u8 0, .int .u8 0, .int .u8 0, .int .u8 0, .int .u8 0, .int .u8 0, .int .u8 0, .int .u8 0, .int .i64 8] 168)) :=
    run_loadAt_row (cs := [.bool false, .int .u8 10, .int .u8 0, .int .u8 0, .int .u8 0, .int .u8 0, .int .u8 0, .int .u8 0, .int .u8 0, .int .u8 0, .int .u8 0, .int .u8 0, .int .u8 0, .int .u8 0, .int .u8 0, .int .u8 0, .int .u8 0, .int .i64 8]) hS.heap Tryz.underlying168 rfl (by kernel_rfl) (fun j u hu => by simpa using hu)
  generalize hW : w.alloc (.cells #[.bool false, .int .u8 10, .int .u8 0, .int .u8 0, .int .u8 0, .int .u8 0, .int .u8 0, .int .u8 0, .int .u8 0, .int .u8 0, .int .u8 0, .int .u8 0, .int .u8 0, .int .u8 0, .int .u8 0, .int .u8 0, .int .u8 0, .int .i64 8] 168) = W1 at *
  generalize hq : w.heap.size = q at *
  clear h hE
  have c1 := ask_8 tb W1
  go_enter Tryz.func70, Tryz.ntmps70
  go_wp2_with (refine wpList_load_run (t := 168) rfl rfl rfl hl (stop_ ?_))
  unfold Stop
  go_wp2_with fail
  refine c1.mono ?_
  rintro e w2 ⟨rfl, hb2⟩
  have hS2 := hS.below_ hb2
  have hE2 := hE1.below hb2
  clear hS hE1 hl c1 hb2
  go_wp2_with fail
  refine (is_nil 2 _).mono ?_
  rintro e w3 ⟨rfl, rfl⟩
  have c2 := code_any 0 _ hE2
  rw [show errV 0 = .nilIface from rfl] at c2
  go_wp2_with fail
  refine c2.mono ?_
  rintro e w4 ⟨rfl, hb4⟩
  have hS4 := hS2.below_ hb4
  clear hS2 c2 hE2 hb4
  have d0 : w4.cell? ⟨q, 0, none⟩ = some (.bool false) := cell_heap hS4.heap rfl
  have d1 : w4.cell? ⟨q, 17, none⟩ = some (.int .i64 8) := cell_heap hS4.heap rfl
  have c3 := top_4 (cell_heap hS4.pull2.heap rfl : w4.cell? ⟨tb, 0, none⟩ = some (.pointer (some ⟨x0, 0, none⟩)))
  go_wp2_with fail
  refine c3.mono ?_
  rintro e w5 ⟨rfl, rfl⟩
  clear c3
  have hS0 := hS4.pull3.to (by ac_rfl : _ = blk x0 (.cells #[.slice none 0 0, .pointer none, .pointer none] 282) • blk q (.cells #[.bool false, .int .u8 10, .int .u8 0, .int .u8 0, .int .u8 0, .int .u8 0, .int .u8 0, .int .u8 0, .int .u8 0, .int .u8 0, .int .u8 0, .int .u8 0, .int .u8 0, .int .u8 0, .int .u8 0, .int .u8 0, .int .u8 0, .int .i64 8] 168) • blk tb (.cells #[.pointer (some ⟨x0, 0, none⟩), .pointer (some ⟨n6, 0, none⟩), .int .i64 0] 284) • F)
  clear hS4
  go_wp2_with fail
  clear d0 d1
  refine wp_loop_rounds 9 ?_
  rw [rounds_succ]
  go_wp2_with fail
  try go_frame
  refine wp_region_ord [(0, .pure), (1, .pure), (2, .quiet), (3, .pure), (5, .pure), (6, .pure), (4, .acts), (7, .pure), (8, .pure)] (by kernel_rfl) (by kernel_rfl)
    (fun w' => w'.heap[q]? = some (.cells #[.bool false, .int .u8 10, .int .u8 0, .int .u8 0, .int .u8 0, .int .u8 0, .int .u8 0, .int .u8 0, .int .u8 0, .int .u8 0, .int .u8 0, .int .u8 0, .int .u8 0, .int .u8 0, .int .u8 0, .int .u8 0, .int .u8 0, .int .i64 8] 168)) hS0.drew.pull2.heap ?_
  iterate 2 (refine ord_pure rfl rfl rfl (fun K' hK => ?_); go_big_quiet_op; refine hK _ ?_; clear hK K')
  refine ord_load (t := 36) rfl rfl rfl (p := .pointer (some ⟨q, 0, none⟩)) (v := .agg #[.bool false, .int .u8 10, .int .u8 0, .int .u8 0, .int .u8 0, .int .u8 0, .int .u8 0, .int .u8 0, .int .u8 0, .int .u8 0, .int .u8 0, .int .u8 0, .int .u8 0, .int .u8 0, .int .u8 0, .int .u8 0, .int .u8 0]) rfl (fun w' hC => run_loadAt_row (cs := [.bool false, .int .u8 10, .int .u8 0, .int .u8 0, .int .u8 0, .int .u8 0, .int .u8 0, .int .u8 0, .int .u8 0, .int .u8 0, .int .u8 0, .int .u8 0, .int .u8 0, .int .u8 0, .int .u8 0, .int .u8 0, .int .u8 0]) hC Tryz.underlying36 rfl (by kernel_rfl) (fun j u hu => by rw [Nat.zero_add]; exact pre_get hu)) (fun K' hK => ?_)
  go_simp
  refine hK _ ?_
  clear hK K'
  iterate 3 (refine ord_pure rfl rfl rfl (fun K' hK => ?_); go_big_quiet_op; refine hK _ ?_; clear hK K')
  refine ord_acts rfl rfl (fun K' hK => ?_)
  go_simp
  refine (bbit_0 0 _).mono ?_
  rintro e v0 ⟨rfl, hb0⟩
  have hT0 := hS0.drew.below_ hb0
  refine hK _ _ (hT0.pull2.heap) ?_
  clear hK K'
  go_simp
  iterate 2 (refine ord_pure rfl rfl rfl (fun K' hK => ?_); go_big_quiet_op; refine hK _ ?_; clear hK K')
  refine ord_nil ?_
  clear hb0 hS0
  have dk : v0.cell? ⟨x0, 1, none⟩ = some (.pointer none) := cell_heap hT0.heap rfl
  obtain ⟨W0, hst, hU0⟩ := one_storeS (o := 1) (ty := 279) (u := .pointer (some ⟨v0.heap.size, 0, none⟩)) (hT0.alloc (.cells #[.slice none 0 0, .pointer none, .pointer none] 282)).pull2 (by kernel_rfl) (by simp) rfl rfl
  clear hT0
  go_wp2_with (refine wpList_store_run (t := 279) rfl rfl rfl rfl hst (stop_ ?_))
  unfold Stop
  clear hst dk
  generalize v0.heap.size = x1 at *
  have dk : W0.cell? ⟨x0, 1, none⟩ = some (.pointer (some ⟨x1, 0, none⟩)) := cell_heap hU0.heap rfl
  have hS1 := hU0.rot3
  clear hU0
  go_wp2_with fail
  clear dk
  rw [rounds_succ]
  go_wp2_with fail
  try go_frame
  refine wp_region_ord [(0, .pure), (1, .pure), (2, .quiet), (3, .pure), (5, .pure), (6, .pure), (4, .acts), (7, .pure), (8, .pure)] (by kernel_rfl) (by kernel_rfl)
    (fun w' => w'.heap[q]? = some (.cells #[.bool false, .int .u8 10, .int .u8 0, .int .u8 0, .int .u8 0, .int .u8 0, .int .u8 0, .int .u8 0, .int .u8 0, .int .u8 0, .int .u8 0, .int .u8 0, .int .u8 0, .int .u8 0, .int .u8 0, .int .u8 0, .int .u8 0, .int .i64 8] 168)) hS1.drew.pull2.heap ?_
  iterate 2 (refine ord_pure rfl rfl rfl (fun K' hK => ?_); go_big_quiet_op; refine hK _ ?_; clear hK K')
  refine ord_load (t := 36) rfl rfl rfl (p := .pointer (some ⟨q, 0, none⟩)) (v := .agg #[.bool false, .int .u8 10, .int .u8 0, .int .u8 0, .int .u8 0, .int .u8 0, .int .u8 0, .int .u8 0, .int .u8 0, .int .u8 0, .int .u8 0, .int .u8 0, .int .u8 0, .int .u8 0, .int .u8 0, .int .u8 0, .int .u8 0]) rfl (fun w' hC => run_loadAt_row (cs := [.bool false, .int .u8 10, .int .u8 0, .int .u8 0, .int .u8 0, .int .u8 0, .int .u8 0, .int .u8 0, .int .u8 0, .int .u8 0, .int .u8 0, .int .u8 0, .int .u8 0, .int .u8 0, .int .u8 0, .int .u8 0, .int .u8 0]) hC Tryz.underlying36 rfl (by kernel_rfl) (fun j u hu => by rw [Nat.zero_add]; exact pre_get hu)) (fun K' hK => ?_)
  go_simp
  refine hK _ ?_
  clear hK K'
  iterate 3 (refine ord_pure rfl rfl rfl (fun K' hK => ?_); go_big_quiet_op; refine hK _ ?_; clear hK K')
  refine ord_acts rfl rfl (fun K' hK => ?_)
  go_simp
  refine (bbit_1 0 _).mono ?_
  rintro e v1 ⟨rfl, hb1⟩
  have hT1 := hS1.drew.below_ hb1
  refine hK _ _ (hT1.pull2.heap) ?_
  clear hK K'
  go_simp
  iterate 2 (refine ord_pure rfl rfl rfl (fun K' hK => ?_); go_big_quiet_op; refine hK _ ?_; clear hK K')
  refine ord_nil ?_
  clear hb1 hS1
  have dk : v1.cell? ⟨x1, 1, none⟩ = some (.pointer none) := cell_heap hT1.heap rfl
  obtain ⟨W1, hst, hU1⟩ := one_storeS (o := 1) (ty := 279) (u := .pointer (some ⟨v1.heap.size, 0, none⟩)) (hT1.alloc (.cells #[.slice none 0 0, .pointer none, .pointer none] 282)).pull2 (by kernel_rfl) (by simp) rfl rfl
  clear hT1
  go_wp2_with (refine wpList_store_run (t := 279) rfl rfl rfl rfl hst (stop_ ?_))
  unfold Stop
  clear hst dk
  generalize v1.heap.size = x2 at *
  have dk : W1.cell? ⟨x1, 1, none⟩ = some (.pointer (some ⟨x2, 0, none⟩)) := cell_heap hU1.heap rfl
  have hS2 := hU1.rot3
  clear hU1
  go_wp2_with fail
  clear dk
  rw [rounds_succ]
  go_wp2_with fail
  try go_frame
  refine wp_region_ord [(0, .pure), (1, .pure), (2, .quiet), (3, .pure), (5, .pure), (6, .pure), (4, .acts), (7, .pure), (8, .pure)] (by kernel_rfl) (by kernel_rfl)
    (fun w' => w'.heap[q]? = some (.cells #[.bool false, .int .u8 10, .int .u8 0, .int .u8 0, .int .u8 0, .int .u8 0, .int .u8 0, .int .u8 0, .int .u8 0, .int .u8 0, .int .u8 0, .int .u8 0, .int .u8 0, .int .u8 0, .int .u8 0, .int .u8 0, .int .u8 0, .int .i64 8] 168)) hS2.drew.pull2.heap ?_
  iterate 2 (refine ord_pure rfl rfl rfl (fun K' hK => ?_); go_big_quiet_op; refine hK _ ?_; clear hK K')
  refine ord_load (t := 36) rfl rfl rfl (p := .pointer (some ⟨q, 0, none⟩)) (v := .agg #[.bool false, .int .u8 10, .int .u8 0, .int .u8 0, .int .u8 0, .int .u8 0, .int .u8 0, .int .u8 0, .int .u8 0, .int .u8 0, .int .u8 0, .int .u8 0, .int .u8 0, .int .u8 0, .int .u8 0, .int .u8 0, .int .u8 0]) rfl (fun w' hC => run_loadAt_row (cs := [.bool false, .int .u8 10, .int .u8 0, .int .u8 0, .int .u8 0, .int .u8 0, .int .u8 0, .int .u8 0, .int .u8 0, .int .u8 0, .int .u8 0, .int .u8 0, .int .u8 0, .int .u8 0, .int .u8 0, .int .u8 0, .int .u8 0]) hC Tryz.underlying36 rfl (by kernel_rfl) (fun j u hu => by rw [Nat.zero_add]; exact pre_get hu)) (fun K' hK => ?_)
  go_simp
  refine hK _ ?_
  clear hK K'
  iterate 3 (refine ord_pure rfl rfl rfl (fun K' hK => ?_); go_big_quiet_op; refine hK _ ?_; clear hK K')
  refine ord_acts rfl rfl (fun K' hK => ?_)
  go_simp
  refine (bbit_2 0 _).mono ?_
  rintro e v2 ⟨rfl, hb2⟩
  have hT2 := hS2.drew.below_ hb2
  refine hK _ _ (hT2.pull2.heap) ?_
  clear hK K'
  go_simp
  iterate 2 (refine ord_pure rfl rfl rfl (fun K' hK => ?_); go_big_quiet_op; refine hK _ ?_; clear hK K')
  refine ord_nil ?_
  clear hb2 hS2
  have dk : v2.cell? ⟨x2, 1, none⟩ = some (.pointer none) := cell_heap hT2.heap rfl
  obtain ⟨W2, hst, hU2⟩ := one_storeS (o := 1) (ty := 279) (u := .pointer (some ⟨v2.heap.size, 0, none⟩)) (hT2.alloc (.cells #[.slice none 0 0, .pointer none, .pointer none] 282)).pull2 (by kernel_rfl) (by simp) rfl rfl
  clear hT2
  go_wp2_with (refine wpList_store_run (t := 279) rfl rfl rfl rfl hst (stop_ ?_))
  unfold Stop
  clear hst dk
  generalize v2.heap.size = x3 at *
  have dk : W2.cell? ⟨x2, 1, none⟩ = some (.pointer (some ⟨x3, 0, none⟩)) := cell_heap hU2.heap rfl
  have hS3 := hU2.rot3
  clear hU2
  go_wp2_with fail
  clear dk
  rw [rounds_succ]
  go_wp2_with fail
  try go_frame
  refine wp_region_ord [(0, .pure), (1, .pure), (2, .quiet), (3, .pure), (5, .pure), (6, .pure), (4, .acts), (7, .pure), (8, .pure)] (by kernel_rfl) (by kernel_rfl)
    (fun w' => w'.heap[q]? = some (.cells #[.bool false, .int .u8 10, .int .u8 0, .int .u8 0, .int .u8 0, .int .u8 0, .int .u8 0, .int .u8 0, .int .u8 0, .int .u8 0, .int .u8 0, .int .u8 0, .int .u8 0, .int .u8 0, .int .u8 0, .int .u8 0, .int .u8 0, .int .i64 8] 168)) hS3.drew.pull2.heap ?_
  iterate 2 (refine ord_pure rfl rfl rfl (fun K' hK => ?_); go_big_quiet_op; refine hK _ ?_; clear hK K')
  refine ord_load (t := 36) rfl rfl rfl (p := .pointer (some ⟨q, 0, none⟩)) (v := .agg #[.bool false, .int .u8 10, .int .u8 0, .int .u8 0, .int .u8 0, .int .u8 0, .int .u8 0, .int .u8 0, .int .u8 0, .int .u8 0, .int .u8 0, .int .u8 0, .int .u8 0, .int .u8 0, .int .u8 0, .int .u8 0, .int .u8 0]) rfl (fun w' hC => run_loadAt_row (cs := [.bool false, .int .u8 10, .int .u8 0, .int .u8 0, .int .u8 0, .int .u8 0, .int .u8 0, .int .u8 0, .int .u8 0, .int .u8 0, .int .u8 0, .int .u8 0, .int .u8 0, .int .u8 0, .int .u8 0, .int .u8 0, .int .u8 0]) hC Tryz.underlying36 rfl (by kernel_rfl) (fun j u hu => by rw [Nat.zero_add]; exact pre_get hu)) (fun K' hK => ?_)
  go_simp
  refine hK _ ?_
  clear hK K'
  iterate 3 (refine ord_pure rfl rfl rfl (fun K' hK => ?_); go_big_quiet_op; refine hK _ ?_; clear hK K')
  refine ord_acts rfl rfl (fun K' hK => ?_)
  go_simp
  refine (bbit_3 0 _).mono ?_
  rintro e v3 ⟨rfl, hb3⟩
  have hT3 := hS3.drew.below_ hb3
  refine hK _ _ (hT3.pull2.heap) ?_
  clear hK K'
  go_simp
  iterate 2 (refine ord_pure rfl rfl rfl (fun K' hK => ?_); go_big_quiet_op; refine hK _ ?_; clear hK K')
  refine ord_nil ?_
  clear hb3 hS3
  have dk : v3.cell? ⟨x3, 1, none⟩ = some (.pointer none) := cell_heap hT3.heap rfl
  obtain ⟨W3, hst, hU3⟩ := one_storeS (o := 1) (ty := 279) (u := .pointer (some ⟨v3.heap.size, 0, none⟩)) (hT3.alloc (.cells #[.slice none 0 0, .pointer none, .pointer none] 282)).pull2 (by kernel_rfl) (by simp) rfl rfl
  clear hT3
  go_wp2_with (refine wpList_store_run (t := 279) rfl rfl rfl rfl hst (stop_ ?_))
  unfold Stop
  clear hst dk
  generalize v3.heap.size = x4 at *
  have dk : W3.cell? ⟨x3, 1, none⟩ = some (.pointer (some ⟨x4, 0, none⟩)) := cell_heap hU3.heap rfl
  have hS4 := hU3.rot3
  clear hU3
  go_wp2_with fail
  clear dk
  rw [rounds_succ]
  go_wp2_with fail
  try go_frame
  refine wp_region_ord [(0, .pure), (1, .pure), (2, .quiet), (3, .pure), (5, .pure), (6, .pure), (4, .acts), (7, .pure), (8, .pure)] (by kernel_rfl) (by kernel_rfl)
    (fun w' => w'.heap[q]? = some (.cells #[.bool false, .int .u8 10, .int .u8 0, .int .u8 0, .int .u8 0, .int .u8 0, .int .u8 0, .int .u8 0, .int .u8 0, .int .u8 0, .int .u8 0, .int .u8 0, .int .u8 0, .int .u8 0, .int .u8 0, .int .u8 0, .int .u8 0, .int .i64 8] 168)) hS4.drew.pull2.heap ?_
  iterate 2 (refine ord_pure rfl rfl rfl (fun K' hK => ?_); go_big_quiet_op; refine hK _ ?_; clear hK K')
  refine ord_load (t := 36) rfl rfl rfl (p := .pointer (some ⟨q, 0, none⟩)) (v := .agg #[.bool false, .int .u8 10, .int .u8 0, .int .u8 0, .int .u8 0, .int .u8 0, .int .u8 0, .int .u8 0, .int .u8 0, .int .u8 0, .int .u8 0, .int .u8 0, .int .u8 0, .int .u8 0, .int .u8 0, .int .u8 0, .int .u8 0]) rfl (fun w' hC => run_loadAt_row (cs := [.bool false, .int .u8 10, .int .u8 0, .int .u8 0, .int .u8 0, .int .u8 0, .int .u8 0, .int .u8 0, .int .u8 0, .int .u8 0, .int .u8 0, .int .u8 0, .int .u8 0, .int .u8 0, .int .u8 0, .int .u8 0, .int .u8 0]) hC Tryz.underlying36 rfl (by kernel_rfl) (fun j u hu => by rw [Nat.zero_add]; exact pre_get hu)) (fun K' hK => ?_)
  go_simp
  refine hK _ ?_
  clear hK K'
  iterate 3 (refine ord_pure rfl rfl rfl (fun K' hK => ?_); go_big_quiet_op; refine hK _ ?_; clear hK K')
  refine ord_acts rfl rfl (fun K' hK => ?_)
  go_simp
  refine (bbit_4 0 _).mono ?_
  rintro e v4 ⟨rfl, hb4⟩
  have hT4 := hS4.drew.below_ hb4
  refine hK _ _ (hT4.pull2.heap) ?_
  clear hK K'
  go_simp
  iterate 2 (refine ord_pure rfl rfl rfl (fun K' hK => ?_); go_big_quiet_op; refine hK _ ?_; clear hK K')
  refine ord_nil ?_
  clear hb4 hS4
  have dk : v4.cell? ⟨x4, 2, none⟩ = some (.pointer none) := cell_heap hT4.heap rfl
  obtain ⟨W4, hst, hU4⟩ := one_storeS (o := 2) (ty := 279) (u := .pointer (some ⟨v4.heap.size, 0, none⟩)) (hT4.alloc (.cells #[.slice none 0 0, .pointer none, .pointer none] 282)).pull2 (by kernel_rfl) (by simp) rfl rfl
  clear hT4
  go_wp2_with (refine wpList_store_run (t := 279) rfl rfl rfl rfl hst (stop_ ?_))
  unfold Stop
  clear hst dk
  generalize v4.heap.size = x5 at *
  have dk : W4.cell? ⟨x4, 2, none⟩ = some (.pointer (some ⟨x5, 0, none⟩)) := cell_heap hU4.heap rfl
  have hS5 := hU4.rot3
  clear hU4
  go_wp2_with fail
  clear dk
  rw [rounds_succ]
  go_wp2_with fail
  try go_frame
  refine wp_region_ord [(0, .pure), (1, .pure), (2, .quiet), (3, .pure), (5, .pure), (6, .pure), (4, .acts), (7, .pure), (8, .pure)] (by kernel_rfl) (by kernel_rfl)
    (fun w' => w'.heap[q]? = some (.cells #[.bool false, .int .u8 10, .int .u8 0, .int .u8 0, .int .u8 0, .int .u8 0, .int .u8 0, .int .u8 0, .int .u8 0, .int .u8 0, .int .u8 0, .int .u8 0, .int .u8 0, .int .u8 0, .int .u8 0, .int .u8 0, .int .u8 0, .int .i64 8] 168)) hS5.drew.pull2.heap ?_
  iterate 2 (refine ord_pure rfl rfl rfl (fun K' hK => ?_); go_big_quiet_op; refine hK _ ?_; clear hK K')
  refine ord_load (t := 36) rfl rfl rfl (p := .pointer (some ⟨q, 0, none⟩)) (v := .agg #[.bool false, .int .u8 10, .int .u8 0, .int .u8 0, .int .u8 0, .int .u8 0, .int .u8 0, .int .u8 0, .int .u8 0, .int .u8 0, .int .u8 0, .int .u8 0, .int .u8 0, .int .u8 0, .int .u8 0, .int .u8 0, .int .u8 0]) rfl (fun w' hC => run_loadAt_row (cs := [.bool false, .int .u8 10, .int .u8 0, .int .u8 0, .int .u8 0, .int .u8 0, .int .u8 0, .int .u8 0, .int .u8 0, .int .u8 0, .int .u8 0, .int .u8 0, .int .u8 0, .int .u8 0, .int .u8 0, .int .u8 0, .int .u8 0]) hC Tryz.underlying36 rfl (by kernel_rfl) (fun j u hu => by rw [Nat.zero_add]; exact pre_get hu)) (fun K' hK => ?_)
  go_simp
  refine hK _ ?_
  clear hK K'
  iterate 3 (refine ord_pure rfl rfl rfl (fun K' hK => ?_); go_big_quiet_op; refine hK _ ?_; clear hK K')
  refine ord_acts rfl rfl (fun K' hK => ?_)
  go_simp
  refine (bbit_5 0 _).mono ?_
  rintro e v5 ⟨rfl, hb5⟩
  have hT5 := hS5.drew.below_ hb5
  refine hK _ _ (hT5.pull2.heap) ?_
  clear hK K'
  go_simp
  iterate 2 (refine ord_pure rfl rfl rfl (fun K' hK => ?_); go_big_quiet_op; refine hK _ ?_; clear hK K')
  refine ord_nil ?_
  clear hb5 hS5
  have dk : v5.cell? ⟨x5, 1, none⟩ = some (.pointer none) := cell_heap hT5.heap rfl
  obtain ⟨W5, hst, hU5⟩ := one_storeS (o := 1) (ty := 279) (u := .pointer (some ⟨v5.heap.size, 0, none⟩)) (hT5.alloc (.cells #[.slice none 0 0, .pointer none, .pointer none] 282)).pull2 (by kernel_rfl) (by simp) rfl rfl
  clear hT5
  go_wp2_with (refine wpList_store_run (t := 279) rfl rfl rfl rfl hst (stop_ ?_))
  unfold Stop
  clear hst dk
  generalize v5.heap.size = x6 at *
  have dk : W5.cell? ⟨x5, 1, none⟩ = some (.pointer (some ⟨x6, 0, none⟩)) := cell_heap hU5.heap rfl
  have hS6 := hU5.rot3
  clear hU5
  go_wp2_with fail
  clear dk
  rw [rounds_succ]
  go_wp2_with fail
  try go_frame
  refine wp_region_ord [(0, .pure), (1, .pure), (2, .quiet), (3, .pure), (5, .pure), (6, .pure), (4, .acts), (7, .pure), (8, .pure)] (by kernel_rfl) (by kernel_rfl)
    (fun w' => w'.heap[q]? = some (.cells #[.bool false, .int .u8 10, .int .u8 0, .int .u8 0, .int .u8 0, .int .u8 0, .int .u8 0, .int .u8 0, .int .u8 0, .int .u8 0, .int .u8 0, .int .u8 0, .int .u8 0, .int .u8 0, .int .u8 0, .int .u8 0, .int .u8 0, .int .i64 8] 168)) hS6.drew.pull2.heap ?_
  iterate 2 (refine ord_pure rfl rfl rfl (fun K' hK => ?_); go_big_quiet_op; refine hK _ ?_; clear hK K')
  refine ord_load (t := 36) rfl rfl rfl (p := .pointer (some ⟨q, 0, none⟩)) (v := .agg #[.bool false, .int .u8 10, .int .u8 0, .int .u8 0, .int .u8 0, .int .u8 0, .int .u8 0, .int .u8 0, .int .u8 0, .int .u8 0, .int .u8 0, .int .u8 0, .int .u8 0, .int .u8 0, .int .u8 0, .int .u8 0, .int .u8 0]) rfl (fun w' hC => run_loadAt_row (cs := [.bool false, .int .u8 10, .int .u8 0, .int .u8 0, .int .u8 0, .int .u8 0, .int .u8 0, .int .u8 0, .int .u8 0, .int .u8 0, .int .u8 0, .int .u8 0, .int .u8 0, .int .u8 0, .int .u8 0, .int .u8 0, .int .u8 0]) hC Tryz.underlying36 rfl (by kernel_rfl) (fun j u hu => by rw [Nat.zero_add]; exact pre_get hu)) (fun K' hK => ?_)
  go_simp
  refine hK _ ?_
  clear hK K'
  iterate 3 (refine ord_pure rfl rfl rfl (fun K' hK => ?_); go_big_quiet_op; refine hK _ ?_; clear hK K')
  refine ord_acts rfl rfl (fun K' hK => ?_)
  go_simp
  refine (bbit_6 0 _).mono ?_
  rintro e v6 ⟨rfl, hb6⟩
  have hT6 := hS6.drew.below_ hb6
  refine hK _ _ (hT6.pull2.heap) ?_
  clear hK K'
  go_simp
  iterate 2 (refine ord_pure rfl rfl rfl (fun K' hK => ?_); go_big_quiet_op; refine hK _ ?_; clear hK K')
  refine ord_nil ?_
  clear hb6 hS6
  have dk : v6.cell? ⟨x6, 2, none⟩ = some (.pointer none) := cell_heap hT6.heap rfl
  obtain ⟨W6, hst, hU6⟩ := one_storeS (o := 2) (ty := 279) (u := .pointer (some ⟨v6.heap.size, 0, none⟩)) (hT6.alloc (.cells #[.slice none 0 0, .pointer none, .pointer none] 282)).pull2 (by kernel_rfl) (by simp) rfl rfl
  clear hT6
  go_wp2_with (refine wpList_store_run (t := 279) rfl rfl rfl rfl hst (stop_ ?_))
  unfold Stop
  clear hst dk
  generalize v6.heap.size = x7 at *
  have dk : W6.cell? ⟨x6, 2, none⟩ = some (.pointer (some ⟨x7, 0, none⟩)) := cell_heap hU6.heap rfl
  have hS7 := hU6.rot3
  clear hU6
  go_wp2_with fail
  clear dk
  rw [rounds_succ]
  go_wp2_with fail
  try go_frame
  refine wp_region_ord [(0, .pure), (1, .pure), (2, .quiet), (3, .pure), (5, .pure), (6, .pure), (4, .acts), (7, .pure), (8, .pure)] (by kernel_rfl) (by kernel_rfl)
    (fun w' => w'.heap[q]? = some (.cells #[.bool false, .int .u8 10, .int .u8 0, .int .u8 0, .int .u8 0, .int .u8 0, .int .u8 0, .int .u8 0, .int .u8 0, .int .u8 0, .int .u8 0, .int .u8 0, .int .u8 0, .int .u8 0, .int .u8 0, .int .u8 0, .int .u8 0, .int .i64 8] 168)) hS7.drew.pull2.heap ?_
  iterate 2 (refine ord_pure rfl rfl rfl (fun K' hK => ?_); go_big_quiet_op; refine hK _ ?_; clear hK K')
  refine ord_load (t := 36) rfl rfl rfl (p := .pointer (some ⟨q, 0, none⟩)) (v := .agg #[.bool false, .int .u8 10, .int .u8 0, .int .u8 0, .int .u8 0, .int .u8 0, .int .u8 0, .int .u8 0, .int .u8 0, .int .u8 0, .int .u8 0, .int .u8 0, .int .u8 0, .int .u8 0, .int .u8 0, .int .u8 0, .int .u8 0]) rfl (fun w' hC => run_loadAt_row (cs := [.bool false, .int .u8 10, .int .u8 0, .int .u8 0, .int .u8 0, .int .u8 0, .int .u8 0, .int .u8 0, .int .u8 0, .int .u8 0, .int .u8 0, .int .u8 0, .int .u8 0, .int .u8 0, .int .u8 0, .int .u8 0, .int .u8 0]) hC Tryz.underlying36 rfl (by kernel_rfl) (fun j u hu => by rw [Nat.zero_add]; exact pre_get hu)) (fun K' hK => ?_)
  go_simp
  refine hK _ ?_
  clear hK K'
  iterate 3 (refine ord_pure rfl rfl rfl (fun K' hK => ?_); go_big_quiet_op; refine hK _ ?_; clear hK K')
  refine ord_acts rfl rfl (fun K' hK => ?_)
  go_simp
  refine (bbit_7 0 _).mono ?_
  rintro e v7 ⟨rfl, hb7⟩
  have hT7 := hS7.drew.below_ hb7
  refine hK _ _ (hT7.pull2.heap) ?_
  clear hK K'
  go_simp
  iterate 2 (refine ord_pure rfl rfl rfl (fun K' hK => ?_); go_big_quiet_op; refine hK _ ?_; clear hK K')
  refine ord_nil ?_
  clear hb7 hS7
  have dk : v7.cell? ⟨x7, 1, none⟩ = some (.pointer none) := cell_heap hT7.heap rfl
  obtain ⟨W7, hst, hU7⟩ := one_storeS (o := 1) (ty := 279) (u := .pointer (some ⟨v7.heap.size, 0, none⟩)) (hT7.alloc (.cells #[.slice none 0 0, .pointer none, .pointer none] 282)).pull2 (by kernel_rfl) (by simp) rfl rfl
  clear hT7
  go_wp2_with (refine wpList_store_run (t := 279) rfl rfl rfl rfl hst (stop_ ?_))
  unfold Stop
  clear hst dk
  generalize v7.heap.size = x8 at *
  have dk : W7.cell? ⟨x7, 1, none⟩ = some (.pointer (some ⟨x8, 0, none⟩)) := cell_heap hU7.heap rfl
  have hS8 := hU7.rot3
  clear hU7
  go_wp2_with fail
  clear dk
  rw [rounds_succ]
  have e8 : W7.cell? ⟨x8, 0, none⟩ = some (.slice none 0 0) := cell_heap hS8.heap rfl
  obtain ⟨v9, w9, hrun, hS9⟩ := (arr_nil (e := 3) (sz := 1) (hS8.alloc (.cells #[.int .i64 2] 3))).append (m := 1) (news := [.int .i64 2]) (t := 208) (ty := 208) (P := Tryz.prog) (x := .slice (some ⟨W7.heap.size, 0, none⟩) 1 1) Tryz.underlying208 (by kernel_rfl : (Tryz.prog.info? 3).map (fun i => (i.zero, i.size, i.bytes)) = some (some (.int .i64 0), 1, 8)) rfl (by decide) (reads_new (cs := [.int .i64 2])) rfl (by intro u hu; simp at hu; rw [hu]; rfl) (by decide) (by decide)
  obtain ⟨A, c, rfl⟩ := hS9.arr_form
  obtain ⟨W10, hst10, hS10⟩ := one_storeS (o := 0) (ty := 208) (u := .slice A 1 c) hS9.pull3 (by kernel_rfl) (by simp) rfl rfl
  have hT := hS10.to (by ac_rfl : _ = blk tb (.cells #[.pointer (some ⟨x0, 0, none⟩), .pointer (some ⟨n6, 0, none⟩), .int .i64 0] 284) • (blk q (.cells #[.bool false, .int .u8 10, .int .u8 0, .int .u8 0, .int .u8 0, .int .u8 0, .int .u8 0, .int .u8 0, .int .u8 0, .int .u8 0, .int .u8 0, .int .u8 0, .int .u8 0, .int .u8 0, .int .u8 0, .int .u8 0, .int .u8 0, .int .i64 8] 168) • blk W7.heap.size (.cells #[.int .i64 2] 3) • arr 3 1 (.slice A 1 c) (0 + 1) ([] ++ [.int .i64 2]) • (blk x8 (.cells (#[Value.slice none 0 0, .pointer none, .pointer none].setIfInBounds 0 (.slice A 1 c)) 282) • blk x7 (.cells (#[Value.slice none 0 0, .pointer none, .pointer none].setIfInBounds 1 (.pointer (some ⟨x8, 0, none⟩))) 282) • blk x6 (.cells (#[Value.slice none 0 0, .pointer none, .pointer none].setIfInBounds 2 (.pointer (some ⟨x7, 0, none⟩))) 282) • blk x5 (.cells (#[Value.slice none 0 0, .pointer none, .pointer none].setIfInBounds 1 (.pointer (some ⟨x6, 0, none⟩))) 282) • blk x4 (.cells (#[Value.slice none 0 0, .pointer none, .pointer none].setIfInBounds 2 (.pointer (some ⟨x5, 0, none⟩))) 282) • blk x3 (.cells (#[Value.slice none 0 0, .pointer none, .pointer none].setIfInBounds 1 (.pointer (some ⟨x4, 0, none⟩))) 282) • blk x2 (.cells (#[Value.slice none 0 0, .pointer none, .pointer none].setIfInBounds 1 (.pointer (some ⟨x3, 0, none⟩))) 282) • blk x1 (.cells (#[Value.slice none 0 0, .pointer none, .pointer none].setIfInBounds 1 (.pointer (some ⟨x2, 0, none⟩))) 282) • blk x0 (.cells (#[Value.slice none 0 0, .pointer none, .pointer none].setIfInBounds 1 (.pointer (some ⟨x1, 0, none⟩))) 282)) • F))
  have e9 : W10.cell? ⟨tb, 2, none⟩ = some (.int .i64 0) := cell_heap hT.heap rfl
  obtain ⟨W11, hst11, hS11⟩ := one_storeS (o := 2) (ty := 3) (u := .int .i64 1) hT (by kernel_rfl) (by simp) rfl rfl
  have hfin : Sat B w0 W11 (arr 3 1 (.slice A 1 c) 1 [.int .i64 2] • blk tb (.cells #[.pointer (some ⟨x0, 0, none⟩), .pointer (some ⟨n6, 0, none⟩), .int .i64 1] 284) • chain8 x0 x1 x2 x3 x4 x5 x6 x7 x8 (.slice A 1 c) • F) :=
    (hS11.to (by ac_rfl : _ = blk q (.cells #[.bool false, .int .u8 10, .int .u8 0, .int .u8 0, .int .u8 0, .int .u8 0, .int .u8 0, .int .u8 0, .int .u8 0, .int .u8 0, .int .u8 0, .int .u8 0, .int .u8 0, .int .u8 0, .int .u8 0, .int .u8 0, .int .u8 0, .int .i64 8] 168) • blk W7.heap.size (.cells #[.int .i64 2] 3) • (arr 3 1 (.slice A 1 c) (0 + 1) ([] ++ [.int .i64 2]) • blk tb (.cells (#[Value.pointer (some ⟨x0, 0, none⟩), .pointer (some ⟨n6, 0, none⟩), .int .i64 0].setIfInBounds 2 (.int .i64 1)) 284) • (blk x8 (.cells (#[Value.slice none 0 0, .pointer none, .pointer none].setIfInBounds 0 (.slice A 1 c)) 282) • blk x7 (.cells (#[Value.slice none 0 0, .pointer none, .pointer none].setIfInBounds 1 (.pointer (some ⟨x8, 0, none⟩))) 282) • blk x6 (.cells (#[Value.slice none 0 0, .pointer none, .pointer none].setIfInBounds 2 (.pointer (some ⟨x7, 0, none⟩))) 282) • blk x5 (.cells (#[Value.slice none 0 0, .pointer none, .pointer none].setIfInBounds 1 (.pointer (some ⟨x6, 0, none⟩))) 282) • blk x4 (.cells (#[Value.slice none 0 0, .pointer none, .pointer none].setIfInBounds 2 (.pointer (some ⟨x5, 0, none⟩))) 282) • blk x3 (.cells (#[Value.slice none 0 0, .pointer none, .pointer none].setIfInBounds 1 (.pointer (some ⟨x4, 0, none⟩))) 282) • blk x2 (.cells (#[Value.slice none 0 0, .pointer none, .pointer none].setIfInBounds 1 (.pointer (some ⟨x3, 0, none⟩))) 282) • blk x1 (.cells (#[Value.slice none 0 0, .pointer none, .pointer none].setIfInBounds 1 (.pointer (some ⟨x2, 0, none⟩))) 282) • blk x0 (.cells (#[Value.slice none 0 0, .pointer none, .pointer none].setIfInBounds 1 (.pointer (some ⟨x1, 0, none⟩))) 282)) • F))).drop.drop
  clear hS8 hS9 hS10 hT hS11
  go_wp2_with (at_builtin; refine wpList_append_run rfl _ _ _ rfl rfl rfl hrun (stop_ ?_))
  unfold Stop
  clear hrun
  go_wp2_with (refine wpList_store_run (t := 208) rfl rfl rfl rfl hst10 (stop_ ?_))
  unfold Stop
  clear hst10
  go_wp2_with (refine wpList_store_run (t := 3) rfl rfl rfl rfl hst11 (stop_ ?_))
  unfold Stop
  clear hst11
  go_wp2_with fail
  go_ret
  exact ⟨rfl, A, c, x1, x2, x3, x4, x5, x6, x7, x8, hfin⟩
end Go.Proofs.YtdcekoocnoackaaGreatDoor
