import Derived.Test.YtdcekoocnoackaaGreatDoorPart02
import Derived.Test.YtdcekoocnoackaaGreatDoorPart12
import Derived.Test.YtdcekoocnoackaaGreatDoorRows
import Derived.Test.YtdcekoocnoackaaGreatDoorPart10
import Derived.ChangeSame
import Derived.ChangeVars
import Derived.JoinedOf
import Derived.RowKit
import Derived.RowKitTokens
import Derived.LaidLaws
import Derived.LaidHandle
import Derived.Handed
import Derived.HandedShaped
import Derived.Stop.Joined
import Derived.Shelf.Vars
import Derived.Lib.LaidIn
import GoSem.ClaimGoes
import Derived.KernelRfl

/-! addr.four at the addresses of the text. -/
namespace Go.Proofs.YtdcekoocnoackaaGreatDoor
open Go Go.RowKit

/-- What the library's greatest length holds: a number. -/
def Mx (w : World) : Prop := ∃ m : Int, w.cell? ⟨1, 0, none⟩ = some (.int .i64 m)
theorem Mx.below {w w' : World} (h : Mx w) (hb : Below w.heap.size w w') : Mx w' := by
  obtain ⟨m, hm⟩ := h
  exact ⟨m, by rw [hb.cell (World.block_lt_of_cell? _ _ hm)]; exact hm⟩

set_option maxRecDepth 8000 in
set_option maxHeartbeats 4000000 in
theorem four_n (w : World) (hm : Mx w) : Calls Tryz.prog 246 #[.string ⟨#[57, 46, 57, 46, 57, 46, 57]⟩] w fun e w' => e = .returned (.tuple #[.agg #[.bool false, .int .u8 9, .int .u8 9, .int .u8 9, .int .u8 9, .int .u8 0, .int .u8 0, .int .u8 0, .int .u8 0, .int .u8 0, .int .u8 0, .int .u8 0, .int .u8 0, .int .u8 0, .int .u8 0, .int .u8 0, .int .u8 0], .nilIface]) ∧ Below w.heap.size w w' := by
  have hsp : ∀ W : World, Mx W → Calls Tryz.prog 260 #[.string ⟨#[57, 46, 57, 46, 57, 46, 57]⟩, .string ⟨#[46]⟩] W fun e w' => e = .returned (.slice (some ⟨W.heap.size, 0, none⟩) 4 4) ∧ w' = W.alloc (.cells #[.string ⟨#[57]⟩, .string ⟨#[57]⟩, .string ⟨#[57]⟩, .string ⟨#[57]⟩] 9) := by
    intro W hW
    obtain ⟨m, hm⟩ := hW
    have := Tryz.strings_Split ⟨#[57, 46, 57, 46, 57, 46, 57]⟩ ⟨#[46]⟩ m W (by decide) hm (by decide)
    exact this
  have hS1 := (Sat.start w).alloc (.cells #[.bool false, .int .u8 0, .int .u8 0, .int .u8 0, .int .u8 0, .int .u8 0, .int .u8 0, .int .u8 0, .int .u8 0, .int .u8 0, .int .u8 0, .int .u8 0, .int .u8 0, .int .u8 0, .int .u8 0, .int .u8 0, .int .u8 0] 36)
  have hm1 := hm.below hS1.below
  have c1 := hsp _ hm1
  have hS2 := (hS1.alloc (.cells #[.string ⟨#[57]⟩, .string ⟨#[57]⟩, .string ⟨#[57]⟩, .string ⟨#[57]⟩] 9)).alloc (.cells #[.bool false, .int .u8 0, .int .u8 0, .int .u8 0, .int .u8 0, .int .u8 0, .int .u8 0, .int .u8 0, .int .u8 0, .int .u8 0, .int .u8 0, .int .u8 0, .int .u8 0, .int .u8 0, .int .u8 0, .int .u8 0, .int .u8 0] 36)
  generalize hq : w.heap.size = q at *
  generalize hW1 : w.alloc (.cells #[.bool false, .int .u8 0, .int .u8 0, .int .u8 0, .int .u8 0, .int .u8 0, .int .u8 0, .int .u8 0, .int .u8 0, .int .u8 0, .int .u8 0, .int .u8 0, .int .u8 0, .int .u8 0, .int .u8 0, .int .u8 0, .int .u8 0] 36) = W1 at *
  generalize hr : W1.heap.size = r at *
  generalize hW2 : W1.alloc (.cells #[.string ⟨#[57]⟩, .string ⟨#[57]⟩, .string ⟨#[57]⟩, .string ⟨#[57]⟩] 9) = W2 at *
  generalize hu : W2.heap.size = u at *
  generalize hW3 : W2.alloc (.cells #[.bool false, .int .u8 0, .int .u8 0, .int .u8 0, .int .u8 0, .int .u8 0, .int .u8 0, .int .u8 0, .int .u8 0, .int .u8 0, .int .u8 0, .int .u8 0, .int .u8 0, .int .u8 0, .int .u8 0, .int .u8 0, .int .u8 0] 36) = W3 at *
  clear hS1 hsp hm hm1
  have d0 : W3.cell? ⟨r, 0, none⟩ = some (.string ⟨#[57]⟩) := cell_heap hS2.pull2.heap rfl
  go_enter Tryz.func246, Tryz.ntmps246
  go_wp2_with fail
  refine c1.mono ?_
  rintro e w2 ⟨rfl, rfl⟩
  go_wp2_with fail
  clear hW1 hW2 hW3 c1 hr hu
  refine wp_loop_rounds 5 ?_
  rw [rounds_succ]
  go_wp2_with fail
  refine (number_9 _).mono ?_
  rintro e v0 ⟨rfl, hb0⟩
  obtain ⟨W4, hst0, hT0⟩ := one_storeS (o := 1) (ty := 5) (u := .int .u8 9) (hS2.below_ hb0) (by kernel_rfl) (by simp) rfl rfl
  clear d0 hb0 hS2
  go_wp2_with (refine wpList_store_run (t := 5) rfl rfl rfl rfl hst0 (stop_ ?_))
  unfold Stop
  clear hst0
  go_wp2_with fail
  have d0 : W4.cell? ⟨r, 1, none⟩ = some (.string ⟨#[57]⟩) := cell_heap hT0.pull2.heap rfl
  rw [rounds_succ]
  go_wp2_with fail
  refine (number_9 _).mono ?_
  rintro e v1 ⟨rfl, hb1⟩
  obtain ⟨W5, hst1, hT1⟩ := one_storeS (o := 2) (ty := 5) (u := .int .u8 9) (hT0.below_ hb1) (by kernel_rfl) (by simp) rfl rfl
  clear d0 hb1 hT0
  go_wp2_with (refine wpList_store_run (t := 5) rfl rfl rfl rfl hst1 (stop_ ?_))
  unfold Stop
  clear hst1
  go_wp2_with fail
  have d0 : W5.cell? ⟨r, 2, none⟩ = some (.string ⟨#[57]⟩) := cell_heap hT1.pull2.heap rfl
  rw [rounds_succ]
  go_wp2_with fail
  refine (number_9 _).mono ?_
  rintro e v2 ⟨rfl, hb2⟩
  obtain ⟨W6, hst2, hT2⟩ := one_storeS (o := 3) (ty := 5) (u := .int .u8 9) (hT1.below_ hb2) (by kernel_rfl) (by simp) rfl rfl
  clear d0 hb2 hT1
  go_wp2_with (refine wpList_store_run (t := 5) rfl rfl rfl rfl hst2 (stop_ ?_))
  unfold Stop
  clear hst2
  go_wp2_with fail
  have d0 : W6.cell? ⟨r, 3, none⟩ = some (.string ⟨#[57]⟩) := cell_heap hT2.pull2.heap rfl
  rw [rounds_succ]
  go_wp2_with fail
  refine (number_9 _).mono ?_
  rintro e v3 ⟨rfl, hb3⟩
  obtain ⟨W7, hst3, hT3⟩ := one_storeS (o := 4) (ty := 5) (u := .int .u8 9) (hT2.below_ hb3) (by kernel_rfl) (by simp) rfl rfl
  clear d0 hb3 hT2
  go_wp2_with (refine wpList_store_run (t := 5) rfl rfl rfl rfl hst3 (stop_ ?_))
  unfold Stop
  clear hst3
  go_wp2_with fail

  rw [rounds_succ]
  simp only [List.setIfInBounds_toArray, List.set_cons_zero, List.set_cons_succ] at hT3
  have hl : (Instr.loadAt 36 (.pointer (some ⟨u, 0, none⟩))).run Tryz.prog W7 = .ok (.agg #[.bool false, .int .u8 9, .int .u8 9, .int .u8 9, .int .u8 9, .int .u8 0, .int .u8 0, .int .u8 0, .int .u8 0, .int .u8 0, .int .u8 0, .int .u8 0, .int .u8 0, .int .u8 0, .int .u8 0, .int .u8 0, .int .u8 0]) W7 :=
    run_loadAt_row (cs := [.bool false, .int .u8 9, .int .u8 9, .int .u8 9, .int .u8 9, .int .u8 0, .int .u8 0, .int .u8 0, .int .u8 0, .int .u8 0, .int .u8 0, .int .u8 0, .int .u8 0, .int .u8 0, .int .u8 0, .int .u8 0, .int .u8 0]) hT3.heap Tryz.underlying36 rfl (by kernel_rfl) (fun j u hu => by simpa using hu)
  have hst := run_storeAt_row (P := Tryz.prog) (o := 0) (ty := 36) (v := .agg #[.bool false, .int .u8 9, .int .u8 9, .int .u8 9, .int .u8 9, .int .u8 0, .int .u8 0, .int .u8 0, .int .u8 0, .int .u8 0, .int .u8 0, .int .u8 0, .int .u8 0, .int .u8 0, .int .u8 0, .int .u8 0, .int .u8 0]) hT3.pull3.heap (by kernel_rfl) (by simp [Value.cells]) (by simp [Value.cells, Value.oneCell'])
  have hS9 := hT3.pull3.setRow (cs := #[.bool false, .int .u8 9, .int .u8 9, .int .u8 9, .int .u8 9, .int .u8 0, .int .u8 0, .int .u8 0, .int .u8 0, .int .u8 0, .int .u8 0, .int .u8 0, .int .u8 0, .int .u8 0, .int .u8 0, .int .u8 0, .int .u8 0])
  simp only [Value.cells] at hst
  have hl9 : (Instr.loadAt 36 (.pointer (some ⟨q, 0, none⟩))).run Tryz.prog (W7.setRow q #[.bool false, .int .u8 9, .int .u8 9, .int .u8 9, .int .u8 9, .int .u8 0, .int .u8 0, .int .u8 0, .int .u8 0, .int .u8 0, .int .u8 0, .int .u8 0, .int .u8 0, .int .u8 0, .int .u8 0, .int .u8 0, .int .u8 0]) = .ok (.agg #[.bool false, .int .u8 9, .int .u8 9, .int .u8 9, .int .u8 9, .int .u8 0, .int .u8 0, .int .u8 0, .int .u8 0, .int .u8 0, .int .u8 0, .int .u8 0, .int .u8 0, .int .u8 0, .int .u8 0, .int .u8 0, .int .u8 0]) (W7.setRow q #[.bool false, .int .u8 9, .int .u8 9, .int .u8 9, .int .u8 9, .int .u8 0, .int .u8 0, .int .u8 0, .int .u8 0, .int .u8 0, .int .u8 0, .int .u8 0, .int .u8 0, .int .u8 0, .int .u8 0, .int .u8 0, .int .u8 0]) :=
    run_loadAt_row (cs := [.bool false, .int .u8 9, .int .u8 9, .int .u8 9, .int .u8 9, .int .u8 0, .int .u8 0, .int .u8 0, .int .u8 0, .int .u8 0, .int .u8 0, .int .u8 0, .int .u8 0, .int .u8 0, .int .u8 0, .int .u8 0, .int .u8 0]) hS9.heap Tryz.underlying36 rfl (by kernel_rfl) (fun j u hu => by simpa using hu)
  rw [show splice (#[.bool false, .int .u8 0, .int .u8 0, .int .u8 0, .int .u8 0, .int .u8 0, .int .u8 0, .int .u8 0, .int .u8 0, .int .u8 0, .int .u8 0, .int .u8 0, .int .u8 0, .int .u8 0, .int .u8 0, .int .u8 0, .int .u8 0] : Array Value) 0 (#[.bool false, .int .u8 9, .int .u8 9, .int .u8 9, .int .u8 9, .int .u8 0, .int .u8 0, .int .u8 0, .int .u8 0, .int .u8 0, .int .u8 0, .int .u8 0, .int .u8 0, .int .u8 0, .int .u8 0, .int .u8 0, .int .u8 0] : Array Value).toList = #[.bool false, .int .u8 9, .int .u8 9, .int .u8 9, .int .u8 9, .int .u8 0, .int .u8 0, .int .u8 0, .int .u8 0, .int .u8 0, .int .u8 0, .int .u8 0, .int .u8 0, .int .u8 0, .int .u8 0, .int .u8 0, .int .u8 0] by rfl] at hst
  have hB := hS9.below
  clear hT3 hS9
  go_wp2_with (first | (refine wpList_load_run (t := 36) rfl rfl rfl hl (stop_ ?_)))
  unfold Stop
  go_wp2_with (refine wpList_store_run (t := 36) rfl rfl rfl rfl hst (stop_ ?_))
  unfold Stop
  go_wp2_with fail
  refine ret_cell_tmp rfl rfl rfl hl9 rfl ⟨rfl, hB⟩

set_option maxRecDepth 8000 in
set_option maxHeartbeats 4000000 in
theorem four_m (w : World) (hm : Mx w) : Calls Tryz.prog 246 #[.string ⟨#[49, 48, 46, 48, 46, 48, 46, 48]⟩] w fun e w' => e = .returned (.tuple #[.agg #[.bool false, .int .u8 10, .int .u8 0, .int .u8 0, .int .u8 0, .int .u8 0, .int .u8 0, .int .u8 0, .int .u8 0, .int .u8 0, .int .u8 0, .int .u8 0, .int .u8 0, .int .u8 0, .int .u8 0, .int .u8 0, .int .u8 0], .nilIface]) ∧ Below w.heap.size w w' := by
  have hsp : ∀ W : World, Mx W → Calls Tryz.prog 260 #[.string ⟨#[49, 48, 46, 48, 46, 48, 46, 48]⟩, .string ⟨#[46]⟩] W fun e w' => e = .returned (.slice (some ⟨W.heap.size, 0, none⟩) 4 4) ∧ w' = W.alloc (.cells #[.string ⟨#[49, 48]⟩, .string ⟨#[48]⟩, .string ⟨#[48]⟩, .string ⟨#[48]⟩] 9) := by
    intro W hW
    obtain ⟨m, hm⟩ := hW
    have := Tryz.strings_Split ⟨#[49, 48, 46, 48, 46, 48, 46, 48]⟩ ⟨#[46]⟩ m W (by decide) hm (by decide)
    exact this
  have hS1 := (Sat.start w).alloc (.cells #[.bool false, .int .u8 0, .int .u8 0, .int .u8 0, .int .u8 0, .int .u8 0, .int .u8 0, .int .u8 0, .int .u8 0, .int .u8 0, .int .u8 0, .int .u8 0, .int .u8 0, .int .u8 0, .int .u8 0, .int .u8 0, .int .u8 0] 36)
  have hm1 := hm.below hS1.below
  have c1 := hsp _ hm1
  have hS2 := (hS1.alloc (.cells #[.string ⟨#[49, 48]⟩, .string ⟨#[48]⟩, .string ⟨#[48]⟩, .string ⟨#[48]⟩] 9)).alloc (.cells #[.bool false, .int .u8 0, .int .u8 0, .int .u8 0, .int .u8 0, .int .u8 0, .int .u8 0, .int .u8 0, .int .u8 0, .int .u8 0, .int .u8 0, .int .u8 0, .int .u8 0, .int .u8 0, .int .u8 0, .int .u8 0, .int .u8 0] 36)
  generalize hq : w.heap.size = q at *
  generalize hW1 : w.alloc (.cells #[.bool false, .int .u8 0, .int .u8 0, .int .u8 0, .int .u8 0, .int .u8 0, .int .u8 0, .int .u8 0, .int .u8 0, .int .u8 0, .int .u8 0, .int .u8 0, .int .u8 0, .int .u8 0, .int .u8 0, .int .u8 0, .int .u8 0] 36) = W1 at *
  generalize hr : W1.heap.size = r at *
  generalize hW2 : W1.alloc (.cells #[.string ⟨#[49, 48]⟩, .string ⟨#[48]⟩, .string ⟨#[48]⟩, .string ⟨#[48]⟩] 9) = W2 at *
  generalize hu : W2.heap.size = u at *
  generalize hW3 : W2.alloc (.cells #[.bool false, .int .u8 0, .int .u8 0, .int .u8 0, .int .u8 0, .int .u8 0, .int .u8 0, .int .u8 0, .int .u8 0, .int .u8 0, .int .u8 0, .int .u8 0, .int .u8 0, .int .u8 0, .int .u8 0, .int .u8 0, .int .u8 0] 36) = W3 at *
  clear hS1 hsp hm hm1
  have d0 : W3.cell? ⟨r, 0, none⟩ = some (.string ⟨#[49, 48]⟩) := cell_heap hS2.pull2.heap rfl
  go_enter Tryz.func246, Tryz.ntmps246
  go_wp2_with fail
  refine c1.mono ?_
  rintro e w2 ⟨rfl, rfl⟩
  go_wp2_with fail
  clear hW1 hW2 hW3 c1 hr hu
  refine wp_loop_rounds 5 ?_
  rw [rounds_succ]
  go_wp2_with fail
  refine (number_10 _).mono ?_
  rintro e v0 ⟨rfl, hb0⟩
  obtain ⟨W4, hst0, hT0⟩ := one_storeS (o := 1) (ty := 5) (u := .int .u8 10) (hS2.below_ hb0) (by kernel_rfl) (by simp) rfl rfl
  clear d0 hb0 hS2
  go_wp2_with (refine wpList_store_run (t := 5) rfl rfl rfl rfl hst0 (stop_ ?_))
  unfold Stop
  clear hst0
  go_wp2_with fail
  have d0 : W4.cell? ⟨r, 1, none⟩ = some (.string ⟨#[48]⟩) := cell_heap hT0.pull2.heap rfl
  rw [rounds_succ]
  go_wp2_with fail
  refine (number_0 _).mono ?_
  rintro e v1 ⟨rfl, hb1⟩
  obtain ⟨W5, hst1, hT1⟩ := one_storeS (o := 2) (ty := 5) (u := .int .u8 0) (hT0.below_ hb1) (by kernel_rfl) (by simp) rfl rfl
  clear d0 hb1 hT0
  go_wp2_with (refine wpList_store_run (t := 5) rfl rfl rfl rfl hst1 (stop_ ?_))
  unfold Stop
  clear hst1
  go_wp2_with fail
  have d0 : W5.cell? ⟨r, 2, none⟩ = some (.string ⟨#[48]⟩) := cell_heap hT1.pull2.heap rfl
  rw [rounds_succ]
  go_wp2_with fail
  refine (number_0 _).mono ?_
  rintro e v2 ⟨rfl, hb2⟩
  obtain ⟨W6, hst2, hT2⟩ := one_storeS (o := 3) (ty := 5) (u := .int .u8 0) (hT1.below_ hb2) (by kernel_rfl) (by simp) rfl rfl
  clear d0 hb2 hT1
  go_wp2_with (refine wpList_store_run (t := 5) rfl rfl rfl rfl hst2 (stop_ ?_))
  unfold Stop
  clear hst2
  go_wp2_with fail
  have d0 : W6.cell? ⟨r, 3, none⟩ = some (.string ⟨#[48]⟩) := cell_heap hT2.pull2.heap rfl
  rw [rounds_succ]
  go_wp2_with fail
  refine (number_0 _).mono ?_
  rintro e v3 ⟨rfl, hb3⟩
  obtain ⟨W7, hst3, hT3⟩ := one_storeS (o := 4) (ty := 5) (u := .int .u8 0) (hT2.below_ hb3) (by kernel_rfl) (by simp) rfl rfl
  clear d0 hb3 hT2
  go_wp2_with (refine wpList_store_run (t := 5) rfl rfl rfl rfl hst3 (stop_ ?_))
  unfold Stop
  clear hst3
  go_wp2_with fail

  rw [rounds_succ]
  simp only [List.setIfInBounds_toArray, List.set_cons_zero, List.set_cons_succ] at hT3
  have hl : (Instr.loadAt 36 (.pointer (some ⟨u, 0, none⟩))).run Tryz.prog W7 = .ok (.agg #[.bool false, .int .u8 10, .int .u8 0, .int .u8 0, .int .u8 0, .int .u8 0, .int .u8 0, .int .u8 0, .int .u8 0, .int .u8 0, .int .u8 0, .int .u8 0, .int .u8 0, .int .u8 0, .int .u8 0, .int .u8 0, .int .u8 0]) W7 :=
    run_loadAt_row (cs := [.bool false, .int .u8 10, .int .u8 0, .int .u8 0, .int .u8 0, .int .u8 0, .int .u8 0, .int .u8 0, .int .u8 0, .int .u8 0, .int .u8 0, .int .u8 0, .int .u8 0, .int .u8 0, .int .u8 0, .int .u8 0, .int .u8 0]) hT3.heap Tryz.underlying36 rfl (by kernel_rfl) (fun j u hu => by simpa using hu)
  have hst := run_storeAt_row (P := Tryz.prog) (o := 0) (ty := 36) (v := .agg #[.bool false, .int .u8 10, .int .u8 0, .int .u8 0, .int .u8 0, .int .u8 0, .int .u8 0, .int .u8 0, .int .u8 0, .int .u8 0, .int .u8 0, .int .u8 0, .int .u8 0, .int .u8 0, .int .u8 0, .int .u8 0, .int .u8 0]) hT3.pull3.heap (by kernel_rfl) (by simp [Value.cells]) (by simp [Value.cells, Value.oneCell'])
  have hS9 := hT3.pull3.setRow (cs := #[.bool false, .int .u8 10, .int .u8 0, .int .u8 0, .int .u8 0, .int .u8 0, .int .u8 0, .int .u8 0, .int .u8 0, .int .u8 0, .int .u8 0, .int .u8 0, .int .u8 0, .int .u8 0, .int .u8 0, .int .u8 0, .int .u8 0])
  simp only [Value.cells] at hst
  have hl9 : (Instr.loadAt 36 (.pointer (some ⟨q, 0, none⟩))).run Tryz.prog (W7.setRow q #[.bool false, .int .u8 10, .int .u8 0, .int .u8 0, .int .u8 0, .int .u8 0, .int .u8 0, .int .u8 0, .int .u8 0, .int .u8 0, .int .u8 0, .int .u8 0, .int .u8 0, .int .u8 0, .int .u8 0, .int .u8 0, .int .u8 0]) = .ok (.agg #[.bool false, .int .u8 10, .int .u8 0, .int .u8 0, .int .u8 0, .int .u8 0, .int .u8 0, .int .u8 0, .int .u8 0, .int .u8 0, .int .u8 0, .int .u8 0, .int .u8 0, .int .u8 0, .int .u8 0, .int .u8 0, .int .u8 0]) (W7.setRow q #[.bool false, .int .u8 10, .int .u8 0, .int .u8 0, .int .u8 0, .int .u8 0, .int .u8 0, .int .u8 0, .int .u8 0, .int .u8 0, .int .u8 0, .int .u8 0, .int .u8 0, .int .u8 0, .int .u8 0, .int .u8 0, .int .u8 0]) :=
    run_loadAt_row (cs := [.bool false, .int .u8 10, .int .u8 0, .int .u8 0, .int .u8 0, .int .u8 0, .int .u8 0, .int .u8 0, .int .u8 0, .int .u8 0, .int .u8 0, .int .u8 0, .int .u8 0, .int .u8 0, .int .u8 0, .int .u8 0, .int .u8 0]) hS9.heap Tryz.underlying36 rfl (by kernel_rfl) (fun j u hu => by simpa using hu)
  rw [show splice (#[.bool false, .int .u8 0, .int .u8 0, .int .u8 0, .int .u8 0, .int .u8 0, .int .u8 0, .int .u8 0, .int .u8 0, .int .u8 0, .int .u8 0, .int .u8 0, .int .u8 0, .int .u8 0, .int .u8 0, .int .u8 0, .int .u8 0] : Array Value) 0 (#[.bool false, .int .u8 10, .int .u8 0, .int .u8 0, .int .u8 0, .int .u8 0, .int .u8 0, .int .u8 0, .int .u8 0, .int .u8 0, .int .u8 0, .int .u8 0, .int .u8 0, .int .u8 0, .int .u8 0, .int .u8 0, .int .u8 0] : Array Value).toList = #[.bool false, .int .u8 10, .int .u8 0, .int .u8 0, .int .u8 0, .int .u8 0, .int .u8 0, .int .u8 0, .int .u8 0, .int .u8 0, .int .u8 0, .int .u8 0, .int .u8 0, .int .u8 0, .int .u8 0, .int .u8 0, .int .u8 0] by rfl] at hst
  have hB := hS9.below
  clear hT3 hS9
  go_wp2_with (first | (refine wpList_load_run (t := 36) rfl rfl rfl hl (stop_ ?_)))
  unfold Stop
  go_wp2_with (refine wpList_store_run (t := 36) rfl rfl rfl rfl hst (stop_ ?_))
  unfold Stop
  go_wp2_with fail
  refine ret_cell_tmp rfl rfl rfl hl9 rfl ⟨rfl, hB⟩
end Go.Proofs.YtdcekoocnoackaaGreatDoor

/-! The library's variables that the row lists: from the condition to a cell; a world that meets the condition; the wrap that keeps the world's shape. -/
namespace Go.Proofs.YtdcekoocnoackaaGreatDoor
open Go.ChangeShapes Go.WideShapes Go.RowKit

def laidL {H : Type} : List (String × DataW H) := [("errors.errorType", Rows.laid_errors_errorType)]
def laidA : List (String × DataW Unit) := [("math/bits.deBruijn32tab", Rows.laid_math_bits_deBruijn32tab), ("math/bits.deBruijn64tab", Rows.laid_math_bits_deBruijn64tab), ("internal/strconv.uint64pow10", Rows.laid_internal_strconv_uint64pow10), ("unicode/utf8.acceptRanges", Rows.laid_unicode_utf8_acceptRanges), ("errors.errorType", Rows.laid_errors_errorType), ("strconv.ErrRange", Rows.laid_strconv_ErrRange), ("strconv.ErrSyntax", Rows.laid_strconv_ErrSyntax), ("unicode/utf8.first", Rows.laid_unicode_utf8_first)]
theorem et_global : Tryz.prog.globalNamed "errors.errorType" = some 0 := by kernel_rfl
theorem et_rtype : (Tryz.prog.cutTypes.find? (·.1 == "internal/reflectlite.rtype")).map (·.2) = some 181 := by kernel_rfl
theorem et_oneRow : ((List.range (664 - 100)).filter fun t => Tryz.prog.rowNamed t [101, 114, 114, 111, 114]) = [25] := by kernel_rfl
theorem et_size : Tryz.prog.types.size = 664 - 100 := by kernel_rfl
theorem et_of_laidA {W : World} (h : laidMetH Tryz.prog laidA W) : Et W := by
  have h' : laidMet Tryz.prog (laidA.filter fun x => x.2.handleName?.isNone) W ∧ handlesMet Tryz.prog laidL W := h
  obtain ⟨name, u, ty, e1, e2, e3, e4, e5⟩ := h'.2 _ (List.mem_singleton.2 rfl)
  have en : name = [101, 114, 114, 111, 114] := (Option.some.inj e1).symm
  subst en
  obtain rfl := Option.some.inj (et_rtype.symm.trans e2)
  have hm : ty ∈ (List.range (664 - 100)).filter fun t => Tryz.prog.rowNamed t [101, 114, 114, 111, 114] := List.mem_filter.2 ⟨List.mem_range.2 (by rw [← et_size]; exact e3), e4⟩
  rw [et_oneRow] at hm
  obtain rfl := List.mem_singleton.1 hm
  have hh : typeHandle Tryz.prog 25 = .pointer (some ⟨9, 25, none⟩) := by kernel_rfl
  rw [hh] at e5
  unfold Et
  simpa using World.var?_cell et_global e5 0
theorem mx_of_shape {W : World} (h : W.ShapedOpen Tryz.prog) : Mx W :=
  Go.Proofs.cell_of_shapedOpen_int (zero := #[.int .i64 0]) (t := 3) h (of_decide_eq_true (by kernel_rfl)) (by kernel_rfl) rfl (by kernel_rfl) (by kernel_rfl) Tryz.underlying3
/-- A world that meets the condition: the settled one with the errors' blocks, the variables' cells laid. -/
noncomputable def laidWorld (os : Os) : World :=
  let N := (World.settled Tryz.prog os).heap.size
  let w0 := World.holding Tryz.prog os ⟨#[.cells #[.string ⟨#[118, 97, 108, 117, 101, 32, 111, 117, 116, 32, 111, 102, 32, 114, 97, 110, 103, 101]⟩] 521, .cells #[.string ⟨#[105, 110, 118, 97, 108, 105, 100, 32, 115, 121, 110, 116, 97, 120]⟩] 521], #[], []⟩
  let put (h : Array Obj) (g : Nat) (cs : Array Value) : Array Obj := h.modify g fun
    | .cells _ t frozen => .cells cs t frozen
    | o => o
  let h0 := w0.heap
  let h1 := put h0 7 #[.int .u8 0, .int .u8 1, .int .u8 28, .int .u8 2, .int .u8 29, .int .u8 14, .int .u8 24, .int .u8 3, .int .u8 30, .int .u8 22, .int .u8 20, .int .u8 15, .int .u8 25, .int .u8 17, .int .u8 4, .int .u8 8, .int .u8 31, .int .u8 27, .int .u8 13, .int .u8 23, .int .u8 21, .int .u8 19, .int .u8 16, .int .u8 7, .int .u8 26, .int .u8 12, .int .u8 18, .int .u8 6, .int .u8 11, .int .u8 5, .int .u8 10, .int .u8 9]
  let h2 := put h1 8 #[.int .u8 0, .int .u8 1, .int .u8 56, .int .u8 2, .int .u8 57, .int .u8 49, .int .u8 28, .int .u8 3, .int .u8 61, .int .u8 58, .int .u8 42, .int .u8 50, .int .u8 38, .int .u8 29, .int .u8 17, .int .u8 4, .int .u8 62, .int .u8 47, .int .u8 59, .int .u8 36, .int .u8 45, .int .u8 43, .int .u8 51, .int .u8 22, .int .u8 53, .int .u8 39, .int .u8 33, .int .u8 30, .int .u8 24, .int .u8 18, .int .u8 12, .int .u8 5, .int .u8 63, .int .u8 55, .int .u8 48, .int .u8 27, .int .u8 60, .int .u8 41, .int .u8 37, .int .u8 16, .int .u8 46, .int .u8 35, .int .u8 44, .int .u8 21, .int .u8 52, .int .u8 32, .int .u8 23, .int .u8 11, .int .u8 54, .int .u8 26, .int .u8 40, .int .u8 15, .int .u8 34, .int .u8 20, .int .u8 31, .int .u8 10, .int .u8 25, .int .u8 14, .int .u8 19, .int .u8 9, .int .u8 13, .int .u8 8, .int .u8 7, .int .u8 6]
  let h3 := put h2 6 #[.int .u64 1, .int .u64 10, .int .u64 100, .int .u64 1000, .int .u64 10000, .int .u64 100000, .int .u64 1000000, .int .u64 10000000, .int .u64 100000000, .int .u64 1000000000, .int .u64 10000000000, .int .u64 100000000000, .int .u64 1000000000000, .int .u64 10000000000000, .int .u64 100000000000000, .int .u64 1000000000000000, .int .u64 10000000000000000, .int .u64 100000000000000000, .int .u64 1000000000000000000, .int .u64 10000000000000000000]
  let h4 := put h3 5 #[.int .u8 128, .int .u8 191, .int .u8 160, .int .u8 191, .int .u8 128, .int .u8 159, .int .u8 144, .int .u8 191, .int .u8 128, .int .u8 143, .int .u8 0, .int .u8 0, .int .u8 0, .int .u8 0, .int .u8 0, .int .u8 0, .int .u8 0, .int .u8 0, .int .u8 0, .int .u8 0, .int .u8 0, .int .u8 0, .int .u8 0, .int .u8 0, .int .u8 0, .int .u8 0, .int .u8 0, .int .u8 0, .int .u8 0, .int .u8 0, .int .u8 0, .int .u8 0]
  let h5 := put h4 0 #[.iface 181 (.agg #[.pointer (some ⟨9, 25, none⟩)])]
  let h6 := put h5 3 #[.iface 519 (.pointer (some ⟨N + 0, 0, none⟩))]
  let h7 := put h6 2 #[.iface 519 (.pointer (some ⟨N + 1, 0, none⟩))]
  let h8 := put h7 4 (Go.Pinned.utf8FirstZ.map fun (z : Nat) => Value.int .u8 (z : Int)).toArray
  { w0 with heap := h8 }
set_option maxRecDepth 1000000 in
theorem laidWorld_met (os : Os) (args : Array Value) : laidMetH Tryz.prog laidA ((laidWorld os).forCall (fun _ _ => 0) ⟨#[], args, []⟩).memory :=
  laidMetH_of_parts (laidMet_of_run' 8 (by kernel_rfl) (by kernel_rfl)) (by kernel_rfl)
/-- The wrap: what the row lists, and the world's shape. -/
theorem wrapA {H : Type} {enc : TypeId × Value → H} {a : Assume} {C : Checked} {os : Os} {f : FuncId} {fn : Func} {s : ChangeSpec} {conds : List PathCond} {apart fresh handsOn again : Bool} {X : World → Array Value → Prop}
    (hX : ∀ (w w' : World) (args : Array Value), w.heap = w'.heap → X w args → X w' args)
    (own : ownKnob C.prog.godebug = none) (started : os.Started) (noInit : C.prog.inits.idxOf? f = none) (hfn : C.prog.funcs[f]? = some fn)
    (witness : ∃ (w : World) (tape : Tape) (i : Input), w.os = os ∧ (w.forCall tape i).Shaped C.prog ∧ i.vars = [] ∧ Input.okWide C.prog (w.forCall tape i) .any w.heap.size f i ∧
      ((s.pre enc C.prog fn conds apart (w.forCall tape i).memory i.args ∧ X (w.forCall tape i).memory i.args) ∧ sizedMet enc C.prog fn (OpenSpec.ofChange s) apart (w.forCall tape i).memory i.args) ∧ a.holds C.prog (lone (Frame.enter C.prog f i.args .normal) [] (w.forCall tape i)))
    (contract : ∀ (W : World) (base : Nat) (args : Array Value) (ds gs : List (DataW H)) (before : List MemPlace),
      (∀ (j : Nat) t v, fn.params[j]? = some t → args[j]? = some v → Value.okWide C.prog W .any base t v) →
      DataW.Whole enc C.prog fn.params.toList s.vars apart W args.toList ds gs before →
      conds.all (PathCond.test C.prog ⟨fn.params.toList, ds, s.plain.varTypes C.prog, gs⟩) = true →
      (DataW.weightsEach C.prog (fn.params.toList ++ s.plain.varTypes C.prog) (ds ++ gs)).all (· ≤ reachBytes) = true → X W args → W.ShapedOpen C.prog →
      Calls C.prog f args W fun e W' => ∃ v, e = .returned v ∧ s.post enc C.prog fn apart fresh handsOn again W args v W') :
    ReturnsInHanded a C os f .any (fun w args => (s.pre enc C.prog fn conds apart w args ∧ X w args) ∧ sizedMet enc C.prog fn (OpenSpec.ofChange s) apart w args) (s.post enc C.prog fn apart fresh handsOn again) := by
  refine returnsInHanded_of_calls own started noInit witness ?_
  intro w tape i _ hsh _ hok hpre _
  obtain ⟨_, _, _, fn', hfn', _, _, _, _, hval⟩ := hok
  have e : fn' = fn := Option.some.inj (hfn'.symm.trans hfn)
  subst e
  obtain ⟨⟨⟨ds, gs, before, hw, hc⟩, hx⟩, hz⟩ := hpre
  have hw' := DataW.Whole.of_heap (w' := w.forCall tape i) (by rfl) hw
  refine (contract (w.forCall tape i) w.heap.size i.args ds gs before hval hw' hc (hz.weights hw) (hX _ _ _ (by rfl) hx) hsh).mono fun e W' ⟨v, he, hp⟩ => ?_
  subst he
  exact ChangeSpec.post_blind hp
end Go.Proofs.YtdcekoocnoackaaGreatDoor

/-! No function of the program starts a goroutine. -/
namespace Go.Proofs.YtdcekoocnoackaaGreatDoor
open Go

theorem goes_part0 : (List.range' 0 50).all (fun i => !((Tryz.prog.funcs[i]?).any Func.goes)) = true := by kernel_rfl
theorem goes_part1 : (List.range' 50 50).all (fun i => !((Tryz.prog.funcs[i]?).any Func.goes)) = true := by kernel_rfl
theorem goes_part2 : (List.range' 100 50).all (fun i => !((Tryz.prog.funcs[i]?).any Func.goes)) = true := by kernel_rfl
theorem goes_part3 : (List.range' 150 50).all (fun i => !((Tryz.prog.funcs[i]?).any Func.goes)) = true := by kernel_rfl
theorem goes_part4 : (List.range' 200 50).all (fun i => !((Tryz.prog.funcs[i]?).any Func.goes)) = true := by kernel_rfl
theorem goes_part5 : (List.range' 250 50).all (fun i => !((Tryz.prog.funcs[i]?).any Func.goes)) = true := by kernel_rfl
theorem goes_part6 : (List.range' 300 50).all (fun i => !((Tryz.prog.funcs[i]?).any Func.goes)) = true := by kernel_rfl
theorem goes_part7 : (List.range' 350 50).all (fun i => !((Tryz.prog.funcs[i]?).any Func.goes)) = true := by kernel_rfl
theorem goes_part8 : (List.range' 400 47).all (fun i => !((Tryz.prog.funcs[i]?).any Func.goes)) = true := by kernel_rfl
theorem goes_size : Tryz.prog.funcs.size = 447 := by kernel_rfl
theorem no_goes (i : Nat) : (Tryz.prog.funcs[i]?).any Func.goes = false := by
  have key : ∀ a k, (List.range' a k).all (fun i => !((Tryz.prog.funcs[i]?).any Func.goes)) = true → a ≤ i → i < a + k → (Tryz.prog.funcs[i]?).any Func.goes = false := fun a k h h1 h2 => by
    have := List.all_eq_true.1 h i (List.mem_range'_1.2 ⟨h1, h2⟩)
    simpa using this
  by_cases h : i < 447
  · rcases Nat.lt_or_ge i 50 with h0 | h0
    · exact key _ _ goes_part0 (Nat.zero_le _) (by omega)
    rcases Nat.lt_or_ge i 100 with h1 | h1
    · exact key _ _ goes_part1 (by omega) (by omega)
    rcases Nat.lt_or_ge i 150 with h2 | h2
    · exact key _ _ goes_part2 (by omega) (by omega)
    rcases Nat.lt_or_ge i 200 with h3 | h3
    · exact key _ _ goes_part3 (by omega) (by omega)
    rcases Nat.lt_or_ge i 250 with h4 | h4
    · exact key _ _ goes_part4 (by omega) (by omega)
    rcases Nat.lt_or_ge i 300 with h5 | h5
    · exact key _ _ goes_part5 (by omega) (by omega)
    rcases Nat.lt_or_ge i 350 with h6 | h6
    · exact key _ _ goes_part6 (by omega) (by omega)
    rcases Nat.lt_or_ge i 400 with h7 | h7
    · exact key _ _ goes_part7 (by omega) (by omega)
    exact key _ _ goes_part8 (by omega) (by omega)
  · rw [Array.getElem?_eq_none (by rw [goes_size]; omega)]; rfl
theorem goesBy_false (c : OpenClaim) (hs : c.start = .entering) : false = c.goesBy Tryz.prog := by
  have h1 : ∀ l : List FuncId, (l.any fun g => (Tryz.prog.funcs[g]?).any Func.goes) = false := fun l => by
    rw [List.any_eq_false]; intro x _; rw [no_goes]; decide
  have h2 : Tryz.prog.funcs.any Func.goes = false := by
    rw [Array.any_eq_false]
    intro i hi
    have := no_goes i
    rw [Array.getElem?_eq_getElem hi] at this
    simp only [Option.any_some] at this
    rw [this]; decide
  have h3 : ∀ f, Tryz.prog.goes f = false := fun f => by unfold Program.goes; rw [h1, h2]; simp
  unfold OpenClaim.goesBy Program.goesAt Program.goesFrom
  rw [hs]
  cases Tryz.prog.funcNamed c.func with
  | none => rfl
  | some f => simp [h3]
end Go.Proofs.YtdcekoocnoackaaGreatDoor
