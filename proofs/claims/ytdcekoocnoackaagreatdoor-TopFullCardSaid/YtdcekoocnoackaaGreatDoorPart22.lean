import Derived.Test.YtdcekoocnoackaaGreatDoorPart16
import Derived.Test.YtdcekoocnoackaaGreatDoorPart12
import Derived.Test.YtdcekoocnoackaaGreatDoorPart06

/-! ParseNet at 10.0.0.0/8. -/
namespace Go.Proofs.YtdcekoocnoackaaGreatDoor
open Go Go.RowKit

set_option maxRecDepth 8000 in
set_option maxHeartbeats 4000000 in
theorem parseNet_8 (w : World) (hm : Mx w) (hE : Et w) : Calls Tryz.prog 191 #[.string ⟨#[49, 48, 46, 48, 46, 48, 46, 48, 47, 56]⟩] w fun e w' => e = .returned (.tuple #[.agg #[.bool false, .int .u8 10, .int .u8 0, .int .u8 0, .int .u8 0, .int .u8 0, .int .u8 0, .int .u8 0, .int .u8 0, .int .u8 0, .int .u8 0, .int .u8 0, .int .u8 0, .int .u8 0, .int .u8 0, .int .u8 0, .int .u8 0, .int .i64 8], .nilIface]) ∧ Below w.heap.size w w' := by
  have hS0 := (Sat.start w).alloc (.cells #[.bool false, .int .u8 0, .int .u8 0, .int .u8 0, .int .u8 0, .int .u8 0, .int .u8 0, .int .u8 0, .int .u8 0, .int .u8 0, .int .u8 0, .int .u8 0, .int .u8 0, .int .u8 0, .int .u8 0, .int .u8 0, .int .u8 0, .int .i64 0] 168)
  have hB0 := hS0.below
  have hm1 := hm.below hB0
  have hE1 := hE.below hB0
  generalize hW : w.alloc (.cells #[.bool false, .int .u8 0, .int .u8 0, .int .u8 0, .int .u8 0, .int .u8 0, .int .u8 0, .int .u8 0, .int .u8 0, .int .u8 0, .int .u8 0, .int .u8 0, .int .u8 0, .int .u8 0, .int .u8 0, .int .u8 0, .int .u8 0, .int .i64 0] 168) = W0 at *
  obtain ⟨m, hm0⟩ := hm1
  have c1 : Calls Tryz.prog 250 #[.string ⟨#[49, 48, 46, 48, 46, 48, 46, 48, 47, 56]⟩, .string ⟨#[47]⟩] W0 fun e w' => e = .returned (.tuple #[.string ⟨#[49, 48, 46, 48, 46, 48, 46, 48]⟩, .string ⟨#[56]⟩, .bool true]) ∧ ∃ n, w' = W0.drewN n :=
    Tryz.strings_Cut ⟨#[49, 48, 46, 48, 46, 48, 46, 48, 47, 56]⟩ ⟨#[47]⟩ m W0 (by decide) hm0
  have hm1 : Mx W0 := ⟨m, hm0⟩
  clear hm0
  generalize hq : w.heap.size = q at *
  go_enter Tryz.func191, Tryz.ntmps191
  go_wp2_with fail
  refine c1.mono ?_
  rintro e w1 ⟨rfl, n, hw1⟩
  have hS1 : Sat q w w1 _ := hw1 ▸ hS0.drewN n
  have hb1 : Below W0.heap.size W0 w1 := by rw [hw1]; exact ((Sat.start W0).drewN n).below
  have hm2 := hm1.below hb1
  have hE2 := hE1.below hb1
  clear hw1 c1 hS0 hb1 hm1 hE1
  go_wp2_with fail
  refine (aparse_m _ hm2 hE2).mono ?_
  rintro e w2 ⟨rfl, hb2⟩
  have hE3 := hE2.below hb2
  have hS2 := (hS1.below_ hb2).alloc (.cells #[.bool false, .int .u8 10, .int .u8 0, .int .u8 0, .int .u8 0, .int .u8 0, .int .u8 0, .int .u8 0, .int .u8 0, .int .u8 0, .int .u8 0, .int .u8 0, .int .u8 0, .int .u8 0, .int .u8 0, .int .u8 0, .int .u8 0] 36)
  go_wp2_with fail
  generalize hW2 : w2.alloc (.cells #[.bool false, .int .u8 10, .int .u8 0, .int .u8 0, .int .u8 0, .int .u8 0, .int .u8 0, .int .u8 0, .int .u8 0, .int .u8 0, .int .u8 0, .int .u8 0, .int .u8 0, .int .u8 0, .int .u8 0, .int .u8 0, .int .u8 0] 36) = W2 at *
  generalize hr : w2.heap.size = r at *
  have hE4 : Et W2 := by rw [← hW2]; exact hE3.below ((Below.refl _ _).alloc (Nat.le_refl _) _)
  refine (number_8 _).mono ?_
  rintro e w3 ⟨rfl, hb3⟩
  have hS3 := hS2.below_ hb3
  have hE5 := hE4.below hb3
  have hl : (Instr.loadAt 36 (.pointer (some ⟨r, 0, none⟩))).run Tryz.prog w3 = .ok (.agg #[.bool false, .int .u8 10, .int .u8 0, .int .u8 0, .int .u8 0, .int .u8 0, .int .u8 0, .int .u8 0, .int .u8 0, .int .u8 0, .int .u8 0, .int .u8 0, .int .u8 0, .int .u8 0, .int .u8 0, .int .u8 0, .int .u8 0]) w3 :=
    run_loadAt_row (cs := [.bool false, .int .u8 10, .int .u8 0, .int .u8 0, .int .u8 0, .int .u8 0, .int .u8 0, .int .u8 0, .int .u8 0, .int .u8 0, .int .u8 0, .int .u8 0, .int .u8 0, .int .u8 0, .int .u8 0, .int .u8 0, .int .u8 0]) hS3.heap Tryz.underlying36 rfl (by kernel_rfl) (fun j u hu => by simpa using hu)
  clear hm2 hE2 hb2 hE3 hS2 hE4 hb3 hS1
  go_wp2_with (refine wpList_load_run (t := 36) rfl rfl rfl hl (stop_ ?_))
  unfold Stop
  clear hl
  have hS4 := (hS3.alloc (.cells #[.bool false, .int .u8 10, .int .u8 0, .int .u8 0, .int .u8 0, .int .u8 0, .int .u8 0, .int .u8 0, .int .u8 0, .int .u8 0, .int .u8 0, .int .u8 0, .int .u8 0, .int .u8 0, .int .u8 0, .int .u8 0, .int .u8 0, .int .i64 8] 168)).alloc (.cells #[.nilIface, .nilIface] 25)
  have hE6 := (hE5.below ((Below.refl _ _).alloc (Nat.le_refl _) (.cells #[.bool false, .int .u8 10, .int .u8 0, .int .u8 0, .int .u8 0, .int .u8 0, .int .u8 0, .int .u8 0, .int .u8 0, .int .u8 0, .int .u8 0, .int .u8 0, .int .u8 0, .int .u8 0, .int .u8 0, .int .u8 0, .int .u8 0, .int .i64 8] 168)))
  have hE7 := (hE6.below ((Below.refl _ _).alloc (Nat.le_refl _) (.cells #[.nilIface, .nilIface] 25)))
  have c5 := join_nil (cell_heap hS4.heap rfl) (cell_heap hS4.heap rfl)
  rw [World.size_alloc] at c5 hS4
  go_wp2_with fail
  refine c5.mono ?_
  rintro e w4 ⟨rfl, rfl⟩
  generalize hW5 : (w3.alloc (.cells #[.bool false, .int .u8 10, .int .u8 0, .int .u8 0, .int .u8 0, .int .u8 0, .int .u8 0, .int .u8 0, .int .u8 0, .int .u8 0, .int .u8 0, .int .u8 0, .int .u8 0, .int .u8 0, .int .u8 0, .int .u8 0, .int .u8 0, .int .i64 8] 168)).alloc (.cells #[.nilIface, .nilIface] 25) = W5 at *
  generalize hu : w3.heap.size = u at *
  have hl5 : ∀ W, W.heap[u]? = some (.cells #[.bool false, .int .u8 10, .int .u8 0, .int .u8 0, .int .u8 0, .int .u8 0, .int .u8 0, .int .u8 0, .int .u8 0, .int .u8 0, .int .u8 0, .int .u8 0, .int .u8 0, .int .u8 0, .int .u8 0, .int .u8 0, .int .u8 0, .int .i64 8] 168) → (Instr.loadAt 168 (.pointer (some ⟨u, 0, none⟩))).run Tryz.prog W = .ok (.agg #[.bool false, .int .u8 10, .int .u8 0, .int .u8 0, .int .u8 0, .int .u8 0, .int .u8 0, .int .u8 0, .int .u8 0, .int .u8 0, .int .u8 0, .int .u8 0, .int .u8 0, .int .u8 0, .int .u8 0, .int .u8 0, .int .u8 0, .int .i64 8]) W := fun W hW =>
    run_loadAt_row (cs := [.bool false, .int .u8 10, .int .u8 0, .int .u8 0, .int .u8 0, .int .u8 0, .int .u8 0, .int .u8 0, .int .u8 0, .int .u8 0, .int .u8 0, .int .u8 0, .int .u8 0, .int .u8 0, .int .u8 0, .int .u8 0, .int .u8 0, .int .i64 8]) hW Tryz.underlying168 rfl (by kernel_rfl) (fun j u hu => by simpa using hu)
  have hl6 := hl5 _ hS4.pull2.heap
  have c6 := rightNet_8 W5
  clear hS3 hE5 hE6 hE7 c5
  go_wp2_with (refine wpList_load_w rfl (t := 168) rfl rfl hl6 (stop_ ?_))
  unfold Stop
  clear hl6
  go_wp2_with fail
  refine c6.mono ?_
  rintro e w6 ⟨rfl, hb6⟩
  have hS6 := hS4.below_ hb6
  have hl7 := hl5 _ hS6.pull2.heap
  clear hS4 hb6 c6 hl5
  have hS7 := hS6.pull4
  have hS8 := hS7.to (by ac_rfl : _ = blk q (.cells #[.bool false, .int .u8 0, .int .u8 0, .int .u8 0, .int .u8 0, .int .u8 0, .int .u8 0, .int .u8 0, .int .u8 0, .int .u8 0, .int .u8 0, .int .u8 0, .int .u8 0, .int .u8 0, .int .u8 0, .int .u8 0, .int .u8 0, .int .i64 0] 168) • (blk r (.cells #[.bool false, .int .u8 10, .int .u8 0, .int .u8 0, .int .u8 0, .int .u8 0, .int .u8 0, .int .u8 0, .int .u8 0, .int .u8 0, .int .u8 0, .int .u8 0, .int .u8 0, .int .u8 0, .int .u8 0, .int .u8 0, .int .u8 0] 36) • blk (u + 1) (.cells #[.nilIface, .nilIface] 25) • blk u (.cells #[.bool false, .int .u8 10, .int .u8 0, .int .u8 0, .int .u8 0, .int .u8 0, .int .u8 0, .int .u8 0, .int .u8 0, .int .u8 0, .int .u8 0, .int .u8 0, .int .u8 0, .int .u8 0, .int .u8 0, .int .u8 0, .int .u8 0, .int .i64 8] 168) • emp))
  have hst := run_storeAt_row (P := Tryz.prog) (o := 0) (ty := 168) (v := .agg #[.bool false, .int .u8 10, .int .u8 0, .int .u8 0, .int .u8 0, .int .u8 0, .int .u8 0, .int .u8 0, .int .u8 0, .int .u8 0, .int .u8 0, .int .u8 0, .int .u8 0, .int .u8 0, .int .u8 0, .int .u8 0, .int .u8 0, .int .i64 8]) hS8.heap (by kernel_rfl) (by simp [Value.cells]) (by simp [Value.cells, Value.oneCell'])
  have hS9 := hS8.setRow (cs := #[.bool false, .int .u8 10, .int .u8 0, .int .u8 0, .int .u8 0, .int .u8 0, .int .u8 0, .int .u8 0, .int .u8 0, .int .u8 0, .int .u8 0, .int .u8 0, .int .u8 0, .int .u8 0, .int .u8 0, .int .u8 0, .int .u8 0, .int .i64 8])
  simp only [Value.cells] at hst
  rw [show splice (#[.bool false, .int .u8 0, .int .u8 0, .int .u8 0, .int .u8 0, .int .u8 0, .int .u8 0, .int .u8 0, .int .u8 0, .int .u8 0, .int .u8 0, .int .u8 0, .int .u8 0, .int .u8 0, .int .u8 0, .int .u8 0, .int .u8 0, .int .i64 0] : Array Value) 0 (#[.bool false, .int .u8 10, .int .u8 0, .int .u8 0, .int .u8 0, .int .u8 0, .int .u8 0, .int .u8 0, .int .u8 0, .int .u8 0, .int .u8 0, .int .u8 0, .int .u8 0, .int .u8 0, .int .u8 0, .int .u8 0, .int .u8 0, .int .i64 8] : Array Value).toList = #[.bool false, .int .u8 10, .int .u8 0, .int .u8 0, .int .u8 0, .int .u8 0, .int .u8 0, .int .u8 0, .int .u8 0, .int .u8 0, .int .u8 0, .int .u8 0, .int .u8 0, .int .u8 0, .int .u8 0, .int .u8 0, .int .u8 0, .int .i64 8] by rfl] at hst
  have hl9 : (Instr.loadAt 168 (.pointer (some ⟨q, 0, none⟩))).run Tryz.prog (w6.setRow q #[.bool false, .int .u8 10, .int .u8 0, .int .u8 0, .int .u8 0, .int .u8 0, .int .u8 0, .int .u8 0, .int .u8 0, .int .u8 0, .int .u8 0, .int .u8 0, .int .u8 0, .int .u8 0, .int .u8 0, .int .u8 0, .int .u8 0, .int .i64 8]) = .ok (.agg #[.bool false, .int .u8 10, .int .u8 0, .int .u8 0, .int .u8 0, .int .u8 0, .int .u8 0, .int .u8 0, .int .u8 0, .int .u8 0, .int .u8 0, .int .u8 0, .int .u8 0, .int .u8 0, .int .u8 0, .int .u8 0, .int .u8 0, .int .i64 8]) (w6.setRow q #[.bool false, .int .u8 10, .int .u8 0, .int .u8 0, .int .u8 0, .int .u8 0, .int .u8 0, .int .u8 0, .int .u8 0, .int .u8 0, .int .u8 0, .int .u8 0, .int .u8 0, .int .u8 0, .int .u8 0, .int .u8 0, .int .u8 0, .int .i64 8]) :=
    run_loadAt_row (cs := [.bool false, .int .u8 10, .int .u8 0, .int .u8 0, .int .u8 0, .int .u8 0, .int .u8 0, .int .u8 0, .int .u8 0, .int .u8 0, .int .u8 0, .int .u8 0, .int .u8 0, .int .u8 0, .int .u8 0, .int .u8 0, .int .u8 0, .int .i64 8]) hS9.heap Tryz.underlying168 rfl (by kernel_rfl) (fun j u hu => by simpa using hu)
  have hB := hS9.below
  clear hS6 hS7 hS8 hS9
  go_wp2_with (refine wpList_load_run (t := 168) rfl rfl rfl hl7 (stop_ ?_))
  unfold Stop
  go_wp2_with (refine wpList_store_run (t := 168) rfl rfl rfl rfl hst (stop_ ?_))
  unfold Stop
  go_wp2_with fail
  refine ret_cell_tmp rfl rfl rfl hl9 rfl ⟨rfl, hB⟩
end Go.Proofs.YtdcekoocnoackaaGreatDoor

/-! The closures of rule.rule. -/
namespace Go.Proofs.YtdcekoocnoackaaGreatDoor
open Go Go.RowKit

section
variable {B : Nat} {w0 w : World} {F : HP} {nb rb : Nat} {cs : Array Value}
set_option maxRecDepth 8000 in
set_option maxHeartbeats 1000000 in
theorem cl1_name {x : Bool} (h : Sat B w0 w (blk nb (.cells #[.bool x] 4) • F)) : Calls Tryz.prog 189 #[.string ⟨#[110, 97, 109, 101]⟩, .pointer (some ⟨nb, 0, none⟩)] w fun e w' => e = .returned .nilIface ∧ Sat B w0 w' (blk nb (.cells #[.bool false] 4) • F) := by
  obtain ⟨W, hst, hS⟩ := one_storeS (o := 0) (ty := 4) (u := .bool false) h (by kernel_rfl) (by simp) rfl rfl
  have d0 : W.cell? ⟨nb, 0, none⟩ = some (.bool false) := cell_heap hS.heap rfl
  have HS := Lib.hid hS
  clear hS h
  go_enter Tryz.func189, Tryz.ntmps189
  go_wp2_with (refine wpList_store_run (t := 4) rfl rfl rfl rfl hst (stop_ ?_))
  unfold Stop
  clear hst
  go_wp2_with fail
  go_ret
  exact ⟨rfl, HS.out⟩
set_option maxRecDepth 8000 in
set_option maxHeartbeats 1000000 in
theorem cl1_net {x : Bool} (h : Sat B w0 w (blk nb (.cells #[.bool x] 4) • F)) : Calls Tryz.prog 189 #[.string ⟨#[110, 101, 116]⟩, .pointer (some ⟨nb, 0, none⟩)] w fun e w' => e = .returned .nilIface ∧ Sat B w0 w' (blk nb (.cells #[.bool true] 4) • F) := by
  obtain ⟨W, hst, hS⟩ := one_storeS (o := 0) (ty := 4) (u := .bool true) h (by kernel_rfl) (by simp) rfl rfl
  have d0 : W.cell? ⟨nb, 0, none⟩ = some (.bool true) := cell_heap hS.heap rfl
  have HS := Lib.hid hS
  clear hS h
  go_enter Tryz.func189, Tryz.ntmps189
  go_wp2_with (refine wpList_store_run (t := 4) rfl rfl rfl rfl hst (stop_ ?_))
  unfold Stop
  clear hst
  go_wp2_with fail
  go_ret
  exact ⟨rfl, HS.out⟩
set_option maxRecDepth 8000 in
set_option maxHeartbeats 2000000 in
theorem cl2_net (h : Sat B w0 w (blk nb (.cells #[.bool true] 4) • blk rb (.cells cs 170) • F)) (hcs : cs.size = 24) (hm : Mx w) (hE : Et w) :
    Calls Tryz.prog 190 #[.string ⟨#[49, 48, 46, 48, 46, 48, 46, 48, 47, 56]⟩, .pointer (some ⟨nb, 0, none⟩), .pointer (some ⟨rb, 0, none⟩)] w fun e w' => e = .returned .nilIface ∧ Sat B w0 w' (blk nb (.cells #[.bool true] 4) • blk rb (.cells (splice cs 3 [.bool false, .int .u8 10, .int .u8 0, .int .u8 0, .int .u8 0, .int .u8 0, .int .u8 0, .int .u8 0, .int .u8 0, .int .u8 0, .int .u8 0, .int .u8 0, .int .u8 0, .int .u8 0, .int .u8 0, .int .u8 0, .int .u8 0, .int .i64 8]) 170) • F) := by
  have d0 : w.cell? ⟨nb, 0, none⟩ = some (.bool true) := cell_heap h.heap rfl
  have c1 := parseNet_8 w hm hE
  have HS := Lib.hid h
  clear h hm hE
  go_enter Tryz.func190, Tryz.ntmps190
  go_wp2_with fail
  refine c1.mono ?_
  rintro e w1 ⟨rfl, hb1⟩
  have hS1 := (HS.out.below_ hb1).pull2
  have hst := run_storeAt_row (P := Tryz.prog) (o := 3) (ty := 168) (v := .agg #[.bool false, .int .u8 10, .int .u8 0, .int .u8 0, .int .u8 0, .int .u8 0, .int .u8 0, .int .u8 0, .int .u8 0, .int .u8 0, .int .u8 0, .int .u8 0, .int .u8 0, .int .u8 0, .int .u8 0, .int .u8 0, .int .u8 0, .int .i64 8]) hS1.heap (by kernel_rfl) (by rw [hcs]; simp [Value.cells]) (by simp [Value.cells, Value.oneCell'])
  have hS2 := hS1.setRow (cs := splice cs 3 [.bool false, .int .u8 10, .int .u8 0, .int .u8 0, .int .u8 0, .int .u8 0, .int .u8 0, .int .u8 0, .int .u8 0, .int .u8 0, .int .u8 0, .int .u8 0, .int .u8 0, .int .u8 0, .int .u8 0, .int .u8 0, .int .u8 0, .int .i64 8])
  simp only [Value.cells] at hst
  clear c1 d0 hb1 hS1 HS
  go_wp2_with (refine wpList_store_run (t := 168) rfl rfl rfl rfl hst (stop_ ?_))
  unfold Stop
  clear hst
  go_wp2_with fail
  go_ret
  exact ⟨rfl, hS2.pull2⟩
set_option maxRecDepth 8000 in
set_option maxHeartbeats 2000000 in
theorem cl2_name {s n : ByteArray} {b : Bool} (h : Sat B w0 w (blk nb (.cells #[.bool false] 4) • blk rb (.cells cs 170) • F)) (hcs : cs.size = 24)
    (hp : Calls Tryz.prog 192 #[.string s] w fun e w' => e = .returned (.tuple #[.string n, .bool b, .nilIface]) ∧ Below w.heap.size w w') :
    Calls Tryz.prog 190 #[.string s, .pointer (some ⟨nb, 0, none⟩), .pointer (some ⟨rb, 0, none⟩)] w fun e w' => e = .returned .nilIface ∧ Sat B w0 w' (blk nb (.cells #[.bool false] 4) • blk rb (.cells ((cs.setIfInBounds 1 (.string n)).setIfInBounds 2 (.bool b)) 170) • F) := by
  have d0 : w.cell? ⟨nb, 0, none⟩ = some (.bool false) := cell_heap h.heap rfl
  have HS := Lib.hid h
  clear h
  go_enter Tryz.func190, Tryz.ntmps190
  go_wp2_with fail
  refine hp.mono ?_
  rintro e w1 ⟨rfl, hb1⟩
  have hS1 := (HS.out.below_ hb1).pull2
  obtain ⟨W2, hst2, hS2⟩ := one_storeS (o := 1) (ty := 9) (u := .string n) hS1 (by kernel_rfl) (by omega) rfl rfl
  obtain ⟨W3, hst3, hS3⟩ := one_storeS (o := 2) (ty := 4) (u := .bool b) hS2 (by kernel_rfl) (by rw [Array.size_setIfInBounds]; omega) rfl rfl
  have hS4 := hS3.pull2
  clear hp d0 hb1 hS1 HS hS2 hS3
  go_wp2_with (refine wpList_store_run (t := 9) rfl rfl rfl rfl hst2 (stop_ ?_))
  unfold Stop
  clear hst2
  go_wp2_with (refine wpList_store_run (t := 4) rfl rfl rfl rfl hst3 (stop_ ?_))
  unfold Stop
  clear hst3
  go_wp2_with fail
  go_ret
  exact ⟨rfl, hS4⟩
set_option maxRecDepth 8000 in
set_option maxHeartbeats 1000000 in
theorem cl3_any {s : ByteArray} {v : Int} (h : Sat B w0 w (blk rb (.cells cs 170) • F)) (hcs : cs.size = 24)
    (hp : Calls Tryz.prog 194 #[.string s] w fun e w' => e = .returned (.tuple #[.int .i64 v, .bool true]) ∧ w' = w) :
    Calls Tryz.prog 193 #[.string s, .pointer (some ⟨rb, 0, none⟩)] w fun e w' => e = .returned .nilIface ∧ Sat B w0 w' (blk rb (.cells (cs.setIfInBounds 21 (.int .i64 v)) 170) • F) := by
  obtain ⟨W, hst, hS⟩ := one_storeS (o := 21) (ty := 3) (u := .int .i64 v) h (by kernel_rfl) (by omega) rfl rfl
  clear h
  go_enter Tryz.func193, Tryz.ntmps193
  go_wp2_with fail
  refine hp.mono ?_
  rintro e w1 ⟨rfl, rfl⟩
  clear hp
  go_wp2_with (refine wpList_store_run (t := 3) rfl rfl rfl rfl hst (stop_ ?_))
  unfold Stop
  clear hst
  go_wp2_with fail
  go_ret
  exact ⟨rfl, hS⟩
set_option maxRecDepth 8000 in
set_option maxHeartbeats 1000000 in
theorem cl4_any {s : ByteArray} {lo hi : Int} (h : Sat B w0 w (blk rb (.cells cs 170) • F)) (hcs : cs.size = 24)
    (hp : Calls Tryz.prog 196 #[.string s] w fun e w' => e = .returned (.tuple #[.int .i64 lo, .int .i64 hi, .nilIface]) ∧ Below w.heap.size w w') :
    Calls Tryz.prog 195 #[.string s, .pointer (some ⟨rb, 0, none⟩)] w fun e w' => e = .returned .nilIface ∧ Sat B w0 w' (blk rb (.cells ((cs.setIfInBounds 22 (.int .i64 lo)).setIfInBounds 23 (.int .i64 hi)) 170) • F) := by
  have HS := Lib.hid h
  clear h
  go_enter Tryz.func195, Tryz.ntmps195
  go_wp2_with fail
  refine hp.mono ?_
  rintro e w1 ⟨rfl, hb1⟩
  have hS1 := HS.out.below_ hb1
  obtain ⟨W2, hst2, hS2⟩ := one_storeS (o := 22) (ty := 3) (u := .int .i64 lo) hS1 (by kernel_rfl) (by omega) rfl rfl
  obtain ⟨W3, hst3, hS3⟩ := one_storeS (o := 23) (ty := 3) (u := .int .i64 hi) hS2 (by kernel_rfl) (by rw [Array.size_setIfInBounds]; omega) rfl rfl
  clear hp hb1 hS1 HS hS2
  go_wp2_with (refine wpList_store_run (t := 3) rfl rfl rfl rfl hst2 (stop_ ?_))
  unfold Stop
  clear hst2
  go_wp2_with (refine wpList_store_run (t := 3) rfl rfl rfl rfl hst3 (stop_ ?_))
  unfold Stop
  clear hst3
  go_wp2_with fail
  go_ret
  exact ⟨rfl, hS3⟩
end
end Go.Proofs.YtdcekoocnoackaaGreatDoor

/-! A region in the order of its text, walked as one that draws. -/
namespace Go.Proofs.YtdcekoocnoackaaGreatDoor
open Go Go.RowKit

section
variable {P : Program} {Q : Exit → Act → World → Prop} {l : List Oper}
theorem wpList_of_ord : ∀ (suf : List Oper) (k : Nat) (ord : List (Nat × How)) (C : World → Prop) (a : Act) (w : World), (∀ j, suf[j]? = l[k + j]?) → ord.map (·.1) = List.range' k suf.length → C w →
    wpOrd P l.toArray (Q .normal) C ord a w → wpList P l.toArray Q suf a w := by
  intro suf
  induction suf with
  | nil =>
    intro k ord C a w _ ho _ h
    have : ord = [] := by simpa using ho
    subst this
    exact h
  | cons o suf ih =>
    intro k ord C a w hs ho hC h
    cases ord with
    | nil => simp at ho
    | cons x ord =>
      obtain ⟨i, how⟩ := x
      simp only [List.map_cons, List.length_cons, List.range'_succ, List.cons.injEq] at ho
      obtain ⟨hi, ho⟩ := ho
      subst hi
      have hk : l.toArray[i]? = some o := by have := hs 0; simpa using this.symm
      have ih' := ih (i + 1) ord
      have hs' : ∀ j, suf[j]? = l[i + 1 + j]? := fun j => by have := hs (j + 1); simpa [Nat.add_assoc, Nat.add_comm 1 j] using this
      have fin : wpOp P l.toArray Q i (wpList P l.toArray Q suf) a w → wpList P l.toArray Q (o :: suf) a w := by
        intro hw
        unfold wpOp at hw
        simp only [hk] at hw
        unfold wpList
        exact hw
      refine fin ?_
      simp only [wpOrd, hk] at h
      by_cases hw : Region.wanted o (yielded l.toArray a.tmps) = true
      · simp only [hw, if_true] at h
        cases how with
        | pure =>
          obtain ⟨v, h1, h2⟩ := h
          exact YC.wpOp (C := C) hk (.inl ⟨hw, fun w' _ => h1 w'⟩) hC (ih' C _ _ hs' ho hC h2)
        | quiet =>
          obtain ⟨v, h1, h2⟩ := h
          exact YC.wpOp (C := C) hk (.inl ⟨hw, h1⟩) hC (ih' C _ _ hs' ho hC h2)
        | acts =>
          refine wpOp_monoQ (K := fun a' w' => C w' ∧ wpOrd P l.toArray (Q .normal) C ord a' w') (fun a w ⟨h1, h2⟩ => ih' C _ _ hs' ho h1 h2) ?_
          unfold wpOp
          simp only [hk, hw, if_true]
          exact .inl h
        | seals =>
          refine wpOp_monoQ (K := fun a' w' => ∃ C' : World → Prop, C' w' ∧ wpOrd P l.toArray (Q .normal) C' ord a' w') (fun a w ⟨C', h1, h2⟩ => ih' C' _ _ hs' ho h1 h2) ?_
          unfold wpOp
          simp only [hk, hw, if_true]
          exact .inl h
      · have hw' : Region.wanted o (yielded l.toArray a.tmps) = false := by simpa using hw
        simp only [hw', Bool.false_eq_true, if_false] at h
        exact YC.wpOp (C := C) hk (.inr ⟨hw', rfl⟩) hC (ih' C _ _ hs' ho hC h)
theorem wp_region_seq {id : Nat} {a : Act} {w : World} (ord : List (Nat × How)) (ho : ord.map (·.1) = List.range' 0 l.length) (C : World → Prop) (hC : C w)
    (h : wpOrd P l.toArray (Q .normal) C ord a w) : (Code.region id l.toArray false).wp P Q a w :=
  wp_region_lit (wpList_of_ord l 0 ord C a w (fun j => by rw [Nat.zero_add]) ho hC h)
theorem wp_build1_run {w : World} {o : Oper} {a : Act} {K : Act → World → Prop} {ty : TypeId} {i : Nat} {x : Operand} {u : Value} {cells : Array Value} (ho : o.op = .build ty #[(i, x)]) (hx : a.eval x = u) (hb : P.built ty [(i, u)] = some cells) (h : K (a.put o.dst (.agg cells)) w) : o.wp P a w K Q :=
  wp_build_run ho (vs := [(i, u)]) (by simp [hx]) hb h
end
end Go.Proofs.YtdcekoocnoackaaGreatDoor
