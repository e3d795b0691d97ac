import Derived.Test.YtdcekoocnoackaaGreatDoorPart30
import Derived.Test.YtdcekoocnoackaaGreatDoorPart15

/-! bits.Match. -/
namespace Go.Proofs.YtdcekoocnoackaaGreatDoor
open Go Go.RowKit

attribute [local irreducible] wpOrd
set_option maxRecDepth 8000 in
set_option maxHeartbeats 16000000 in
theorem match_any {B : Nat} {w0 w : World} {F : HP} {tb : Nat} (h : Sat B w0 w (trieH tb • F)) :
    Calls Tryz.prog 183 #[.pointer (some ⟨tb, 0, none⟩), .agg adB] w fun e w' => ∃ v', e = .returned v' ∧ Sat B w0 w' (arr 3 1 v' 1 [.int .i64 2] • trieH tb • F) := by
  obtain ⟨x0, x1, x2, x3, x4, x5, x6, x7, x8, n6, c, A, h1⟩ := h.trie_open
  have hsh : ∀ W : World, Sat B w0 W (arr 3 1 (.slice A 1 c) 1 [.int .i64 2] • blk tb (.cells #[.pointer (some ⟨x0, 0, none⟩), .pointer (some ⟨n6, 0, none⟩), .int .i64 1] 284) • chain8 x0 x1 x2 x3 x4 x5 x6 x7 x8 (.slice A 1 c) • F) → Sat B w0 W (trieH tb • F) := fun W hW => hW.trie_shut
  have hfacts : ∀ (W : World) (G : HP), Sat B w0 W (G • arr 3 1 (.slice A 1 c) 1 [.int .i64 2] • blk tb (.cells #[.pointer (some ⟨x0, 0, none⟩), .pointer (some ⟨n6, 0, none⟩), .int .i64 1] 284) • chain8 x0 x1 x2 x3 x4 x5 x6 x7 x8 (.slice A 1 c) • F) → W.cell? ⟨tb, 0, none⟩ = some (.pointer (some ⟨x0, 0, none⟩)) ∧ W.cell? ⟨x0, 0, none⟩ = some (.slice none 0 0) ∧ W.cell? ⟨x0, 1, none⟩ = some (.pointer (some ⟨x1, 0, none⟩)) ∧ W.cell? ⟨x1, 0, none⟩ = some (.slice none 0 0) ∧ W.cell? ⟨x1, 1, none⟩ = some (.pointer (some ⟨x2, 0, none⟩)) ∧ W.cell? ⟨x2, 0, none⟩ = some (.slice none 0 0) ∧ W.cell? ⟨x2, 1, none⟩ = some (.pointer (some ⟨x3, 0, none⟩)) ∧ W.cell? ⟨x3, 0, none⟩ = some (.slice none 0 0) ∧ W.cell? ⟨x3, 1, none⟩ = some (.pointer (some ⟨x4, 0, none⟩)) ∧ W.cell? ⟨x4, 0, none⟩ = some (.slice none 0 0) ∧ W.cell? ⟨x4, 2, none⟩ = some (.pointer (some ⟨x5, 0, none⟩)) ∧ W.cell? ⟨x5, 0, none⟩ = some (.slice none 0 0) ∧ W.cell? ⟨x5, 1, none⟩ = some (.pointer (some ⟨x6, 0, none⟩)) ∧ W.cell? ⟨x6, 0, none⟩ = some (.slice none 0 0) ∧ W.cell? ⟨x6, 2, none⟩ = some (.pointer (some ⟨x7, 0, none⟩)) ∧ W.cell? ⟨x7, 0, none⟩ = some (.slice none 0 0) ∧ W.cell? ⟨x7, 1, none⟩ = some (.pointer (some ⟨x8, 0, none⟩)) ∧ W.cell? ⟨x8, 0, none⟩ = some (.slice A 1 c) ∧ W.cell? ⟨x8, 1, none⟩ = some (.pointer none) := by
    intro W G hG
    have hT := hG.drop.drop
    simp only [chain8, star_assoc] at hT
    exact ⟨cell_heap hT.heap rfl, cell_heap hT.drop.drop.drop.drop.drop.drop.drop.drop.drop.heap rfl, cell_heap hT.drop.drop.drop.drop.drop.drop.drop.drop.drop.heap rfl, cell_heap hT.drop.drop.drop.drop.drop.drop.drop.drop.heap rfl, cell_heap hT.drop.drop.drop.drop.drop.drop.drop.drop.heap rfl, cell_heap hT.drop.drop.drop.drop.drop.drop.drop.heap rfl, cell_heap hT.drop.drop.drop.drop.drop.drop.drop.heap rfl, cell_heap hT.drop.drop.drop.drop.drop.drop.heap rfl, cell_heap hT.drop.drop.drop.drop.drop.drop.heap rfl, cell_heap hT.drop.drop.drop.drop.drop.heap rfl, cell_heap hT.drop.drop.drop.drop.drop.heap rfl, cell_heap hT.drop.drop.drop.drop.heap rfl, cell_heap hT.drop.drop.drop.drop.heap rfl, cell_heap hT.drop.drop.drop.heap rfl, cell_heap hT.drop.drop.drop.heap rfl, cell_heap hT.drop.drop.heap rfl, cell_heap hT.drop.drop.heap rfl, cell_heap hT.drop.heap rfl, cell_heap hT.drop.heap rfl⟩
  have hids : ∀ (W : World) (G : HP), Sat B w0 W (G • arr 3 1 (.slice A 1 c) 1 [.int .i64 2] • blk tb (.cells #[.pointer (some ⟨x0, 0, none⟩), .pointer (some ⟨n6, 0, none⟩), .int .i64 1] 284) • chain8 x0 x1 x2 x3 x4 x5 x6 x7 x8 (.slice A 1 c) • F) → Sat B w0 W (arr 3 1 (.slice A 1 c) 1 [.int .i64 2] • G • blk tb (.cells #[.pointer (some ⟨x0, 0, none⟩), .pointer (some ⟨n6, 0, none⟩), .int .i64 1] 284) • chain8 x0 x1 x2 x3 x4 x5 x6 x7 x8 (.slice A 1 c) • F) := fun W G hG => hG.pull2
  have hidb : ∀ (W : World) (G : HP), Sat B w0 W (G • arr 3 1 (.slice A 1 c) 1 [.int .i64 2] • blk tb (.cells #[.pointer (some ⟨x0, 0, none⟩), .pointer (some ⟨n6, 0, none⟩), .int .i64 1] 284) • chain8 x0 x1 x2 x3 x4 x5 x6 x7 x8 (.slice A 1 c) • F) → Sat B w0 W (G • trieH tb • F) := fun W G hG => by
    have := (hG.pull2.pull3).to (by ac_rfl : _ = (arr 3 1 (.slice A 1 c) 1 [.int .i64 2] • blk tb (.cells #[.pointer (some ⟨x0, 0, none⟩), .pointer (some ⟨n6, 0, none⟩), .int .i64 1] 284) • chain8 x0 x1 x2 x3 x4 x5 x6 x7 x8 (.slice A 1 c) • (G • F)))
    exact (this.trie_shut).pull2
  have sl_zero : (Tryz.prog.info? 208).map (fun i => (i.zero, i.size, i.bytes)) = some (some (.slice none 0 0), 1, 24) := by kernel_rfl
  have hB0 := h1.alloc (.cells adB 36)
  have hld : ∀ W : World, W.heap[w.heap.size]? = some (.cells adB 36) → (Instr.loadAt 36 (.pointer (some ⟨w.heap.size, 0, none⟩))).run Tryz.prog W = .ok (.agg adB) W := fun W hW =>
    run_loadAt_row (cs := adB.toList) hW Tryz.underlying36 rfl (by kernel_rfl) (fun j u hu => by simpa using hu)
  have hl1 := hld _ hB0.heap
  have cR : ∀ W, Calls Tryz.prog 131 #[.agg adB] W fun e w' => e = .returned (.bool true) ∧ Below W.heap.size W w' := fun W => aright_4 10 0 0 1 W
  have cb0 : ∀ W, Calls Tryz.prog 139 #[.agg adB, .int .i64 0] W fun e w' => e = .returned (.int .u8 0) ∧ Below W.heap.size W w' := fun W => bbit_0 1 W
  have cb1 : ∀ W, Calls Tryz.prog 139 #[.agg adB, .int .i64 1] W fun e w' => e = .returned (.int .u8 0) ∧ Below W.heap.size W w' := fun W => bbit_1 1 W
  have cb2 : ∀ W, Calls Tryz.prog 139 #[.agg adB, .int .i64 2] W fun e w' => e = .returned (.int .u8 0) ∧ Below W.heap.size W w' := fun W => bbit_2 1 W
  have cb3 : ∀ W, Calls Tryz.prog 139 #[.agg adB, .int .i64 3] W fun e w' => e = .returned (.int .u8 0) ∧ Below W.heap.size W w' := fun W => bbit_3 1 W
  have cb4 : ∀ W, Calls Tryz.prog 139 #[.agg adB, .int .i64 4] W fun e w' => e = .returned (.int .u8 1) ∧ Below W.heap.size W w' := fun W => bbit_4 1 W
  have cb5 : ∀ W, Calls Tryz.prog 139 #[.agg adB, .int .i64 5] W fun e w' => e = .returned (.int .u8 0) ∧ Below W.heap.size W w' := fun W => bbit_5 1 W
  have cb6 : ∀ W, Calls Tryz.prog 139 #[.agg adB, .int .i64 6] W fun e w' => e = .returned (.int .u8 1) ∧ Below W.heap.size W w' := fun W => bbit_6 1 W
  have cb7 : ∀ W, Calls Tryz.prog 139 #[.agg adB, .int .i64 7] W fun e w' => e = .returned (.int .u8 0) ∧ Below W.heap.size W w' := fun W => bbit_7 1 W
  have cb8 : ∀ W, Calls Tryz.prog 139 #[.agg adB, .int .i64 8] W fun e w' => e = .returned (.int .u8 0) ∧ Below W.heap.size W w' := fun W => bbit_8 1 W
  have hA0 : adB[0]? = some (.bool false) := rfl
  generalize hq : w.heap.size = q at *
  generalize adB = SB at *
  generalize hT : arr 3 1 (.slice A 1 c) 1 [.int .i64 2] • blk tb (.cells #[.pointer (some ⟨x0, 0, none⟩), .pointer (some ⟨n6, 0, none⟩), .int .i64 1] 284) • chain8 x0 x1 x2 x3 x4 x5 x6 x7 x8 (.slice A 1 c) • F = T at *
  clear h h1
  go_enter Tryz.func183, Tryz.ntmps183
  go_wp2_with (refine wpList_load_w rfl (t := 36) rfl rfl hl1 (stop_ ?_))
  unfold Stop
  clear hl1
  go_wp2_with fail
  refine (cR _).mono ?_
  rintro e w0b ⟨rfl, hbR⟩
  have hB1 := hB0.below_ hbR
  have d0 : w0b.cell? ⟨q, 0, none⟩ = some (.bool false) := cell_heap hB1.heap hA0
  have ct := top_4 (hfacts _ _ hB1).1
  clear hB0 hbR cR
  go_wp2_with fail
  refine ct.mono ?_
  rintro e w0c ⟨rfl, rfl⟩
  clear ct d0
  have hS0 := arr_nil (e := 208) (sz := 1) hB1
  clear hB1
  go_wp2_with fail
  refine wp_loop_rounds 10 ?_
  rw [rounds_succ]
  obtain ⟨dtb, i0, p0, i1, p1, i2, p2, i3, p3, i4, p4, i5, p5, i6, p6, i7, p7, i8, p8⟩ := hfacts _ _ (hS0.to (star_assoc _ _ _).symm)
  obtain ⟨v1, u1, hr, hY⟩ := (hS0.alloc (.cells #[.slice none 0 0] 208)).pull2.append (m := 1) (news := [.slice none 0 0]) (t := 339) (ty := 339) (P := Tryz.prog) (x := .slice (some ⟨w0c.heap.size, 0, none⟩) 1 1) Tryz.underlying339 sl_zero rfl (by decide) (reads_new (cs := [.slice none 0 0])) rfl (by intro u hu; simp at hu; rw [hu]; rfl) (by decide) (by decide)
  have hS1 := hY.pull2.drop
  clear hY
  go_wp2_with (at_builtin; refine wpList_append_run rfl _ _ _ rfl rfl rfl hr (stop_ ?_))
  unfold Stop
  clear hr dtb i0 p0 i1 p1 i2 p2 i3 p3 i4 p4 i5 p5 i6 p6 i7 p7 i8 p8
  go_wp2_with fail
  try go_frame
  refine wp_region_ord [(0, .pure), (1, .quiet), (2, .pure), (4, .pure), (5, .pure), (3, .acts), (6, .pure), (7, .quiet), (8, .pure)] (by kernel_rfl) (by kernel_rfl)
    (fun w' => w'.heap[q]? = some (.cells SB 36) ∧ w'.cell? ⟨x0, 1, none⟩ = some (.pointer (some ⟨x1, 0, none⟩))) ⟨hS1.drew.pull2.heap, (hfacts _ _ (hS1.drew.to (star_assoc _ _ _).symm)).2.2.1⟩ ?_
  iterate 1 (refine ord_pure rfl rfl rfl (fun K' hK => ?_); go_big_quiet_op; refine hK _ ?_; clear hK K')
  refine ord_load (t := 36) rfl rfl rfl (p := .pointer (some ⟨q, 0, none⟩)) (v := .agg SB) rfl (fun w' hC => hld _ hC.1) (fun K' hK => ?_)
  go_simp
  refine hK _ ?_
  clear hK K'
  iterate 3 (refine ord_pure rfl rfl rfl (fun K' hK => ?_); go_big_quiet_op; refine hK _ ?_; clear hK K')
  refine ord_acts rfl rfl (fun K' hK => ?_)
  go_simp
  refine (cb0 _).mono ?_
  rintro e z0 ⟨rfl, hb0⟩
  have hV0 := hS1.drew.below_ hb0
  refine hK _ _ (⟨hV0.pull2.heap, (hfacts _ _ (hV0.to (star_assoc _ _ _).symm)).2.2.1⟩) ?_
  clear hK K'
  go_simp
  iterate 1 (refine ord_pure rfl rfl rfl (fun K' hK => ?_); go_big_quiet_op; refine hK _ ?_; clear hK K')
  refine ord_load (t := 279) rfl rfl rfl (p := .pointer (some ⟨x0, 1, none⟩)) (v := .pointer (some ⟨x1, 0, none⟩)) rfl (fun w' hC => load_one Tryz.underlying279 rfl hC.2) (fun K' hK => ?_)
  go_simp
  refine hK _ ?_
  clear hK K'
  iterate 1 (refine ord_pure rfl rfl rfl (fun K' hK => ?_); go_big_quiet_op; refine hK _ ?_; clear hK K')
  refine ord_nil ?_
  clear hb0 hS1
  go_wp2_with fail
  rw [rounds_succ]
  obtain ⟨dtb, i0, p0, i1, p1, i2, p2, i3, p3, i4, p4, i5, p5, i6, p6, i7, p7, i8, p8⟩ := hfacts _ _ (hV0.to (star_assoc _ _ _).symm)
  obtain ⟨v2, u2, hr, hY⟩ := (hV0.alloc (.cells #[.slice none 0 0] 208)).pull2.append (m := 1) (news := [.slice none 0 0]) (t := 339) (ty := 339) (P := Tryz.prog) (x := .slice (some ⟨z0.heap.size, 0, none⟩) 1 1) Tryz.underlying339 sl_zero rfl (by decide) (reads_new (cs := [.slice none 0 0])) rfl (by intro u hu; simp at hu; rw [hu]; rfl) (by decide) (by decide)
  have hS2 := hY.pull2.drop
  clear hY
  go_wp2_with (at_builtin; refine wpList_append_run rfl _ _ _ rfl rfl rfl hr (stop_ ?_))
  unfold Stop
  clear hr dtb i0 p0 i1 p1 i2 p2 i3 p3 i4 p4 i5 p5 i6 p6 i7 p7 i8 p8
  go_wp2_with fail
  try go_frame
  refine wp_region_ord [(0, .pure), (1, .quiet), (2, .pure), (4, .pure), (5, .pure), (3, .acts), (6, .pure), (7, .quiet), (8, .pure)] (by kernel_rfl) (by kernel_rfl)
    (fun w' => w'.heap[q]? = some (.cells SB 36) ∧ w'.cell? ⟨x1, 1, none⟩ = some (.pointer (some ⟨x2, 0, none⟩))) ⟨hS2.drew.pull2.heap, (hfacts _ _ (hS2.drew.to (star_assoc _ _ _).symm)).2.2.2.2.1⟩ ?_
  iterate 1 (refine ord_pure rfl rfl rfl (fun K' hK => ?_); go_big_quiet_op; refine hK _ ?_; clear hK K')
  refine ord_load (t := 36) rfl rfl rfl (p := .pointer (some ⟨q, 0, none⟩)) (v := .agg SB) rfl (fun w' hC => hld _ hC.1) (fun K' hK => ?_)
  go_simp
  refine hK _ ?_
  clear hK K'
  iterate 3 (refine ord_pure rfl rfl rfl (fun K' hK => ?_); go_big_quiet_op; refine hK _ ?_; clear hK K')
  refine ord_acts rfl rfl (fun K' hK => ?_)
  go_simp
  refine (cb1 _).mono ?_
  rintro e z1 ⟨rfl, hb1⟩
  have hV1 := hS2.drew.below_ hb1
  refine hK _ _ (⟨hV1.pull2.heap, (hfacts _ _ (hV1.to (star_assoc _ _ _).symm)).2.2.2.2.1⟩) ?_
  clear hK K'
  go_simp
  iterate 1 (refine ord_pure rfl rfl rfl (fun K' hK => ?_); go_big_quiet_op; refine hK _ ?_; clear hK K')
  refine ord_load (t := 279) rfl rfl rfl (p := .pointer (some ⟨x1, 1, none⟩)) (v := .pointer (some ⟨x2, 0, none⟩)) rfl (fun w' hC => load_one Tryz.underlying279 rfl hC.2) (fun K' hK => ?_)
  go_simp
  refine hK _ ?_
  clear hK K'
  iterate 1 (refine ord_pure rfl rfl rfl (fun K' hK => ?_); go_big_quiet_op; refine hK _ ?_; clear hK K')
  refine ord_nil ?_
  clear hb1 hS2
  go_wp2_with fail
  rw [rounds_succ]
  obtain ⟨dtb, i0, p0, i1, p1, i2, p2, i3, p3, i4, p4, i5, p5, i6, p6, i7, p7, i8, p8⟩ := hfacts _ _ (hV1.to (star_assoc _ _ _).symm)
  obtain ⟨v3, u3, hr, hY⟩ := (hV1.alloc (.cells #[.slice none 0 0] 208)).pull2.append (m := 1) (news := [.slice none 0 0]) (t := 339) (ty := 339) (P := Tryz.prog) (x := .slice (some ⟨z1.heap.size, 0, none⟩) 1 1) Tryz.underlying339 sl_zero rfl (by decide) (reads_new (cs := [.slice none 0 0])) rfl (by intro u hu; simp at hu; rw [hu]; rfl) (by decide) (by decide)
  have hS3 := hY.pull2.drop
  clear hY
  go_wp2_with (at_builtin; refine wpList_append_run rfl _ _ _ rfl rfl rfl hr (stop_ ?_))
  unfold Stop
  clear hr dtb i0 p0 i1 p1 i2 p2 i3 p3 i4 p4 i5 p5 i6 p6 i7 p7 i8 p8
  go_wp2_with fail
  try go_frame
  refine wp_region_ord [(0, .pure), (1, .quiet), (2, .pure), (4, .pure), (5, .pure), (3, .acts), (6, .pure), (7, .quiet), (8, .pure)] (by kernel_rfl) (by kernel_rfl)
    (fun w' => w'.heap[q]? = some (.cells SB 36) ∧ w'.cell? ⟨x2, 1, none⟩ = some (.pointer (some ⟨x3, 0, none⟩))) ⟨hS3.drew.pull2.heap, (hfacts _ _ (hS3.drew.to (star_assoc _ _ _).symm)).2.2.2.2.2.2.1⟩ ?_
  iterate 1 (refine ord_pure rfl rfl rfl (fun K' hK => ?_); go_big_quiet_op; refine hK _ ?_; clear hK K')
  refine ord_load (t := 36) rfl rfl rfl (p := .pointer (some ⟨q, 0, none⟩)) (v := .agg SB) rfl (fun w' hC => hld _ hC.1) (fun K' hK => ?_)
  go_simp
  refine hK _ ?_
  clear hK K'
  iterate 3 (refine ord_pure rfl rfl rfl (fun K' hK => ?_); go_big_quiet_op; refine hK _ ?_; clear hK K')
  refine ord_acts rfl rfl (fun K' hK => ?_)
  go_simp
  refine (cb2 _).mono ?_
  rintro e z2 ⟨rfl, hb2⟩
  have hV2 := hS3.drew.below_ hb2
  refine hK _ _ (⟨hV2.pull2.heap, (hfacts _ _ (hV2.to (star_assoc _ _ _).symm)).2.2.2.2.2.2.1⟩) ?_
  clear hK K'
  go_simp
  iterate 1 (refine ord_pure rfl rfl rfl (fun K' hK => ?_); go_big_quiet_op; refine hK _ ?_; clear hK K')
  refine ord_load (t := 279) rfl rfl rfl (p := .pointer (some ⟨x2, 1, none⟩)) (v := .pointer (some ⟨x3, 0, none⟩)) rfl (fun w' hC => load_one Tryz.underlying279 rfl hC.2) (fun K' hK => ?_)
  go_simp
  refine hK _ ?_
  clear hK K'
  iterate 1 (refine ord_pure rfl rfl rfl (fun K' hK => ?_); go_big_quiet_op; refine hK _ ?_; clear hK K')
  refine ord_nil ?_
  clear hb2 hS3
  go_wp2_with fail
  rw [rounds_succ]
  obtain ⟨dtb, i0, p0, i1, p1, i2, p2, i3, p3, i4, p4, i5, p5, i6, p6, i7, p7, i8, p8⟩ := hfacts _ _ (hV2.to (star_assoc _ _ _).symm)
  obtain ⟨v4, u4, hr, hY⟩ := (hV2.alloc (.cells #[.slice none 0 0] 208)).pull2.append (m := 1) (news := [.slice none 0 0]) (t := 339) (ty := 339) (P := Tryz.prog) (x := .slice (some ⟨z2.heap.size, 0, none⟩) 1 1) Tryz.underlying339 sl_zero rfl (by decide) (reads_new (cs := [.slice none 0 0])) rfl (by intro u hu; simp at hu; rw [hu]; rfl) (by decide) (by decide)
  have hS4 := hY.pull2.drop
  clear hY
  go_wp2_with (at_builtin; refine wpList_append_run rfl _ _ _ rfl rfl rfl hr (stop_ ?_))
  unfold Stop
  clear hr dtb i0 p0 i1 p1 i2 p2 i3 p3 i4 p4 i5 p5 i6 p6 i7 p7 i8 p8
  go_wp2_with fail
  try go_frame
  refine wp_region_ord [(0, .pure), (1, .quiet), (2, .pure), (4, .pure), (5, .pure), (3, .acts), (6, .pure), (7, .quiet), (8, .pure)] (by kernel_rfl) (by kernel_rfl)
    (fun w' => w'.heap[q]? = some (.cells SB 36) ∧ w'.cell? ⟨x3, 1, none⟩ = some (.pointer (some ⟨x4, 0, none⟩))) ⟨hS4.drew.pull2.heap, (hfacts _ _ (hS4.drew.to (star_assoc _ _ _).symm)).2.2.2.2.2.2.2.2.1⟩ ?_
  iterate 1 (refine ord_pure rfl rfl rfl (fun K' hK => ?_); go_big_quiet_op; refine hK _ ?_; clear hK K')
  refine ord_load (t := 36) rfl rfl rfl (p := .pointer (some ⟨q, 0, none⟩)) (v := .agg SB) rfl (fun w' hC => hld _ hC.1) (fun K' hK => ?_)
  go_simp
  refine hK _ ?_
  clear hK K'
  iterate 3 (refine ord_pure rfl rfl rfl (fun K' hK => ?_); go_big_quiet_op; refine hK _ ?_; clear hK K')
  refine ord_acts rfl rfl (fun K' hK => ?_)
  go_simp
  refine (cb3 _).mono ?_
  rintro e z3 ⟨rfl, hb3⟩
  have hV3 := hS4.drew.below_ hb3
  refine hK _ _ (⟨hV3.pull2.heap, (hfacts _ _ (hV3.to (star_assoc _ _ _).symm)).2.2.2.2.2.2.2.2.1⟩) ?_
  clear hK K'
  go_simp
  iterate 1 (refine ord_pure rfl rfl rfl (fun K' hK => ?_); go_big_quiet_op; refine hK _ ?_; clear hK K')
  refine ord_load (t := 279) rfl rfl rfl (p := .pointer (some ⟨x3, 1, none⟩)) (v := .pointer (some ⟨x4, 0, none⟩)) rfl (fun w' hC => load_one Tryz.underlying279 rfl hC.2) (fun K' hK => ?_)
  go_simp
  refine hK _ ?_
  clear hK K'
  iterate 1 (refine ord_pure rfl rfl rfl (fun K' hK => ?_); go_big_quiet_op; refine hK _ ?_; clear hK K')
  refine ord_nil ?_
  clear hb3 hS4
  go_wp2_with fail
  rw [rounds_succ]
  obtain ⟨dtb, i0, p0, i1, p1, i2, p2, i3, p3, i4, p4, i5, p5, i6, p6, i7, p7, i8, p8⟩ := hfacts _ _ (hV3.to (star_assoc _ _ _).symm)
  obtain ⟨v5, u5, hr, hY⟩ := (hV3.alloc (.cells #[.slice none 0 0] 208)).pull2.append (m := 1) (news := [.slice none 0 0]) (t := 339) (ty := 339) (P := Tryz.prog) (x := .slice (some ⟨z3.heap.size, 0, none⟩) 1 1) Tryz.underlying339 sl_zero rfl (by decide) (reads_new (cs := [.slice none 0 0])) rfl (by intro u hu; simp at hu; rw [hu]; rfl) (by decide) (by decide)
  have hS5 := hY.pull2.drop
  clear hY
  go_wp2_with (at_builtin; refine wpList_append_run rfl _ _ _ rfl rfl rfl hr (stop_ ?_))
  unfold Stop
  clear hr dtb i0 p0 i1 p1 i2 p2 i3 p3 i4 p4 i5 p5 i6 p6 i7 p7 i8 p8
  go_wp2_with fail
  try go_frame
  refine wp_region_ord [(0, .pure), (1, .quiet), (2, .pure), (4, .pure), (5, .pure), (3, .acts), (6, .pure), (7, .quiet), (8, .pure)] (by kernel_rfl) (by kernel_rfl)
    (fun w' => w'.heap[q]? = some (.cells SB 36) ∧ w'.cell? ⟨x4, 2, none⟩ = some (.pointer (some ⟨x5, 0, none⟩))) ⟨hS5.drew.pull2.heap, (hfacts _ _ (hS5.drew.to (star_assoc _ _ _).symm)).2.2.2.2.2.2.2.2.2.2.1⟩ ?_
  iterate 1 (refine ord_pure rfl rfl rfl (fun K' hK => ?_); go_big_quiet_op; refine hK _ ?_; clear hK K')
  refine ord_load (t := 36) rfl rfl rfl (p := .pointer (some ⟨q, 0, none⟩)) (v := .agg SB) rfl (fun w' hC => hld _ hC.1) (fun K' hK => ?_)
  go_simp
  refine hK _ ?_
  clear hK K'
  iterate 3 (refine ord_pure rfl rfl rfl (fun K' hK => ?_); go_big_quiet_op; refine hK _ ?_; clear hK K')
  refine ord_acts rfl rfl (fun K' hK => ?_)
  go_simp
  refine (cb4 _).mono ?_
  rintro e z4 ⟨rfl, hb4⟩
  have hV4 := hS5.drew.below_ hb4
  refine hK _ _ (⟨hV4.pull2.heap, (hfacts _ _ (hV4.to (star_assoc _ _ _).symm)).2.2.2.2.2.2.2.2.2.2.1⟩) ?_
  clear hK K'
  go_simp
  iterate 1 (refine ord_pure rfl rfl rfl (fun K' hK => ?_); go_big_quiet_op; refine hK _ ?_; clear hK K')
  refine ord_load (t := 279) rfl rfl rfl (p := .pointer (some ⟨x4, 2, none⟩)) (v := .pointer (some ⟨x5, 0, none⟩)) rfl (fun w' hC => load_one Tryz.underlying279 rfl hC.2) (fun K' hK => ?_)
  go_simp
  refine hK _ ?_
  clear hK K'
  iterate 1 (refine ord_pure rfl rfl rfl (fun K' hK => ?_); go_big_quiet_op; refine hK _ ?_; clear hK K')
  refine ord_nil ?_
  clear hb4 hS5
  go_wp2_with fail
  rw [rounds_succ]
  obtain ⟨dtb, i0, p0, i1, p1, i2, p2, i3, p3, i4, p4, i5, p5, i6, p6, i7, p7, i8, p8⟩ := hfacts _ _ (hV4.to (star_assoc _ _ _).symm)
  obtain ⟨v6, u6, hr, hY⟩ := (hV4.alloc (.cells #[.slice none 0 0] 208)).pull2.append (m := 1) (news := [.slice none 0 0]) (t := 339) (ty := 339) (P := Tryz.prog) (x := .slice (some ⟨z4.heap.size, 0, none⟩) 1 1) Tryz.underlying339 sl_zero rfl (by decide) (reads_new (cs := [.slice none 0 0])) rfl (by intro u hu; simp at hu; rw [hu]; rfl) (by decide) (by decide)
  have hS6 := hY.pull2.drop
  clear hY
  go_wp2_with (at_builtin; refine wpList_append_run rfl _ _ _ rfl rfl rfl hr (stop_ ?_))
  unfold Stop
  clear hr dtb i0 p0 i1 p1 i2 p2 i3 p3 i4 p4 i5 p5 i6 p6 i7 p7 i8 p8
  go_wp2_with fail
  try go_frame
  refine wp_region_ord [(0, .pure), (1, .quiet), (2, .pure), (4, .pure), (5, .pure), (3, .acts), (6, .pure), (7, .quiet), (8, .pure)] (by kernel_rfl) (by kernel_rfl)
    (fun w' => w'.heap[q]? = some (.cells SB 36) ∧ w'.cell? ⟨x5, 1, none⟩ = some (.pointer (some ⟨x6, 0, none⟩))) ⟨hS6.drew.pull2.heap, (hfacts _ _ (hS6.drew.to (star_assoc _ _ _).symm)).2.2.2.2.2.2.2.2.2.2.2.2.1⟩ ?_
  iterate 1 (refine ord_pure rfl rfl rfl (fun K' hK => ?_); go_big_quiet_op; refine hK _ ?_; clear hK K')
  refine ord_load (t := 36) rfl rfl rfl (p := .pointer (some ⟨q, 0, none⟩)) (v := .agg SB) rfl (fun w' hC => hld _ hC.1) (fun K' hK => ?_)
  go_simp
  refine hK _ ?_
  clear hK K'
  iterate 3 (refine ord_pure rfl rfl rfl (fun K' hK => ?_); go_big_quiet_op; refine hK _ ?_; clear hK K')
  refine ord_acts rfl rfl (fun K' hK => ?_)
  go_simp
  refine (cb5 _).mono ?_
  rintro e z5 ⟨rfl, hb5⟩
  have hV5 := hS6.drew.below_ hb5
  refine hK _ _ (⟨hV5.pull2.heap, (hfacts _ _ (hV5.to (star_assoc _ _ _).symm)).2.2.2.2.2.2.2.2.2.2.2.2.1⟩) ?_
  clear hK K'
  go_simp
  iterate 1 (refine ord_pure rfl rfl rfl (fun K' hK => ?_); go_big_quiet_op; refine hK _ ?_; clear hK K')
  refine ord_load (t := 279) rfl rfl rfl (p := .pointer (some ⟨x5, 1, none⟩)) (v := .pointer (some ⟨x6, 0, none⟩)) rfl (fun w' hC => load_one Tryz.underlying279 rfl hC.2) (fun K' hK => ?_)
  go_simp
  refine hK _ ?_
  clear hK K'
  iterate 1 (refine ord_pure rfl rfl rfl (fun K' hK => ?_); go_big_quiet_op; refine hK _ ?_; clear hK K')
  refine ord_nil ?_
  clear hb5 hS6
  go_wp2_with fail
  rw [rounds_succ]
  obtain ⟨dtb, i0, p0, i1, p1, i2, p2, i3, p3, i4, p4, i5, p5, i6, p6, i7, p7, i8, p8⟩ := hfacts _ _ (hV5.to (star_assoc _ _ _).symm)
  obtain ⟨v7, u7, hr, hY⟩ := (hV5.alloc (.cells #[.slice none 0 0] 208)).pull2.append (m := 1) (news := [.slice none 0 0]) (t := 339) (ty := 339) (P := Tryz.prog) (x := .slice (some ⟨z5.heap.size, 0, none⟩) 1 1) Tryz.underlying339 sl_zero rfl (by decide) (reads_new (cs := [.slice none 0 0])) rfl (by intro u hu; simp at hu; rw [hu]; rfl) (by decide) (by decide)
  have hS7 := hY.pull2.drop
  clear hY
  go_wp2_with (at_builtin; refine wpList_append_run rfl _ _ _ rfl rfl rfl hr (stop_ ?_))
  unfold Stop
  clear hr dtb i0 p0 i1 p1 i2 p2 i3 p3 i4 p4 i5 p5 i6 p6 i7 p7 i8 p8
  go_wp2_with fail
  try go_frame
  refine wp_region_ord [(0, .pure), (1, .quiet), (2, .pure), (4, .pure), (5, .pure), (3, .acts), (6, .pure), (7, .quiet), (8, .pure)] (by kernel_rfl) (by kernel_rfl)
    (fun w' => w'.heap[q]? = some (.cells SB 36) ∧ w'.cell? ⟨x6, 2, none⟩ = some (.pointer (some ⟨x7, 0, none⟩))) ⟨hS7.drew.pull2.heap, (hfacts _ _ (hS7.drew.to (star_assoc _ _ _).symm)).2.2.2.2.2.2.2.2.2.2.2.2.2.2.1⟩ ?_
  iterate 1 (refine ord_pure rfl rfl rfl (fun K' hK => ?_); go_big_quiet_op; refine hK _ ?_; clear hK K')
  refine ord_load (t := 36) rfl rfl rfl (p := .pointer (some ⟨q, 0, none⟩)) (v := .agg SB) rfl (fun w' hC => hld _ hC.1) (fun K' hK => ?_)
  go_simp
  refine hK _ ?_
  clear hK K'
  iterate 3 (refine ord_pure rfl rfl rfl (fun K' hK => ?_); go_big_quiet_op; refine hK _ ?_; clear hK K')
  refine ord_acts rfl rfl (fun K' hK => ?_)
  go_simp
  refine (cb6 _).mono ?_
  rintro e z6 ⟨rfl, hb6⟩
  have hV6 := hS7.drew.below_ hb6
  refine hK _ _ (⟨hV6.pull2.heap, (hfacts _ _ (hV6.to (star_assoc _ _ _).symm)).2.2.2.2.2.2.2.2.2.2.2.2.2.2.1⟩) ?_
  clear hK K'
  go_simp
  iterate 1 (refine ord_pure rfl rfl rfl (fun K' hK => ?_); go_big_quiet_op; refine hK _ ?_; clear hK K')
  refine ord_load (t := 279) rfl rfl rfl (p := .pointer (some ⟨x6, 2, none⟩)) (v := .pointer (some ⟨x7, 0, none⟩)) rfl (fun w' hC => load_one Tryz.underlying279 rfl hC.2) (fun K' hK => ?_)
  go_simp
  refine hK _ ?_
  clear hK K'
  iterate 1 (refine ord_pure rfl rfl rfl (fun K' hK => ?_); go_big_quiet_op; refine hK _ ?_; clear hK K')
  refine ord_nil ?_
  clear hb6 hS7
  go_wp2_with fail
  rw [rounds_succ]
  obtain ⟨dtb, i0, p0, i1, p1, i2, p2, i3, p3, i4, p4, i5, p5, i6, p6, i7, p7, i8, p8⟩ := hfacts _ _ (hV6.to (star_assoc _ _ _).symm)
  obtain ⟨v8, u8, hr, hY⟩ := (hV6.alloc (.cells #[.slice none 0 0] 208)).pull2.append (m := 1) (news := [.slice none 0 0]) (t := 339) (ty := 339) (P := Tryz.prog) (x := .slice (some ⟨z6.heap.size, 0, none⟩) 1 1) Tryz.underlying339 sl_zero rfl (by decide) (reads_new (cs := [.slice none 0 0])) rfl (by intro u hu; simp at hu; rw [hu]; rfl) (by decide) (by decide)
  have hS8 := hY.pull2.drop
  clear hY
  go_wp2_with (at_builtin; refine wpList_append_run rfl _ _ _ rfl rfl rfl hr (stop_ ?_))
  unfold Stop
  clear hr dtb i0 p0 i1 p1 i2 p2 i3 p3 i4 p4 i5 p5 i6 p6 i7 p7 i8 p8
  go_wp2_with fail
  try go_frame
  refine wp_region_ord [(0, .pure), (1, .quiet), (2, .pure), (4, .pure), (5, .pure), (3, .acts), (6, .pure), (7, .quiet), (8, .pure)] (by kernel_rfl) (by kernel_rfl)
    (fun w' => w'.heap[q]? = some (.cells SB 36) ∧ w'.cell? ⟨x7, 1, none⟩ = some (.pointer (some ⟨x8, 0, none⟩))) ⟨hS8.drew.pull2.heap, (hfacts _ _ (hS8.drew.to (star_assoc _ _ _).symm)).2.2.2.2.2.2.2.2.2.2.2.2.2.2.2.2.1⟩ ?_
  iterate 1 (refine ord_pure rfl rfl rfl (fun K' hK => ?_); go_big_quiet_op; refine hK _ ?_; clear hK K')
  refine ord_load (t := 36) rfl rfl rfl (p := .pointer (some ⟨q, 0, none⟩)) (v := .agg SB) rfl (fun w' hC => hld _ hC.1) (fun K' hK => ?_)
  go_simp
  refine hK _ ?_
  clear hK K'
  iterate 3 (refine ord_pure rfl rfl rfl (fun K' hK => ?_); go_big_quiet_op; refine hK _ ?_; clear hK K')
  refine ord_acts rfl rfl (fun K' hK => ?_)
  go_simp
  refine (cb7 _).mono ?_
  rintro e z7 ⟨rfl, hb7⟩
  have hV7 := hS8.drew.below_ hb7
  refine hK _ _ (⟨hV7.pull2.heap, (hfacts _ _ (hV7.to (star_assoc _ _ _).symm)).2.2.2.2.2.2.2.2.2.2.2.2.2.2.2.2.1⟩) ?_
  clear hK K'
  go_simp
  iterate 1 (refine ord_pure rfl rfl rfl (fun K' hK => ?_); go_big_quiet_op; refine hK _ ?_; clear hK K')
  refine ord_load (t := 279) rfl rfl rfl (p := .pointer (some ⟨x7, 1, none⟩)) (v := .pointer (some ⟨x8, 0, none⟩)) rfl (fun w' hC => load_one Tryz.underlying279 rfl hC.2) (fun K' hK => ?_)
  go_simp
  refine hK _ ?_
  clear hK K'
  iterate 1 (refine ord_pure rfl rfl rfl (fun K' hK => ?_); go_big_quiet_op; refine hK _ ?_; clear hK K')
  refine ord_nil ?_
  clear hb7 hS8
  go_wp2_with fail
  rw [rounds_succ]
  obtain ⟨dtb, i0, p0, i1, p1, i2, p2, i3, p3, i4, p4, i5, p5, i6, p6, i7, p7, i8, p8⟩ := hfacts _ _ (hV7.to (star_assoc _ _ _).symm)
  obtain ⟨v9, u9, hr, hY⟩ := (hV7.alloc (.cells #[.slice A 1 c] 208)).pull2.append (m := 1) (news := [.slice A 1 c]) (t := 339) (ty := 339) (P := Tryz.prog) (x := .slice (some ⟨z7.heap.size, 0, none⟩) 1 1) Tryz.underlying339 sl_zero rfl (by decide) (reads_new (cs := [.slice A 1 c])) rfl (by intro u hu; simp at hu; rw [hu]; rfl) (by decide) (by decide)
  have hS9 := hY.pull2.drop
  clear hY
  go_wp2_with (at_builtin; refine wpList_append_run rfl _ _ _ rfl rfl rfl hr (stop_ ?_))
  unfold Stop
  clear hr dtb i0 p0 i1 p1 i2 p2 i3 p3 i4 p4 i5 p5 i6 p6 i7 p7 i8 p8
  go_wp2_with fail
  try go_frame
  refine wp_region_ord [(0, .pure), (1, .quiet), (2, .pure), (4, .pure), (5, .pure), (3, .acts), (6, .pure), (7, .quiet), (8, .pure)] (by kernel_rfl) (by kernel_rfl)
    (fun w' => w'.heap[q]? = some (.cells SB 36) ∧ w'.cell? ⟨x8, 1, none⟩ = some (.pointer none)) ⟨hS9.drew.pull2.heap, (hfacts _ _ (hS9.drew.to (star_assoc _ _ _).symm)).2.2.2.2.2.2.2.2.2.2.2.2.2.2.2.2.2.2⟩ ?_
  iterate 1 (refine ord_pure rfl rfl rfl (fun K' hK => ?_); go_big_quiet_op; refine hK _ ?_; clear hK K')
  refine ord_load (t := 36) rfl rfl rfl (p := .pointer (some ⟨q, 0, none⟩)) (v := .agg SB) rfl (fun w' hC => hld _ hC.1) (fun K' hK => ?_)
  go_simp
  refine hK _ ?_
  clear hK K'
  iterate 3 (refine ord_pure rfl rfl rfl (fun K' hK => ?_); go_big_quiet_op; refine hK _ ?_; clear hK K')
  refine ord_acts rfl rfl (fun K' hK => ?_)
  go_simp
  refine (cb8 _).mono ?_
  rintro e z8 ⟨rfl, hb8⟩
  have hV8 := hS9.drew.below_ hb8
  refine hK _ _ (⟨hV8.pull2.heap, (hfacts _ _ (hV8.to (star_assoc _ _ _).symm)).2.2.2.2.2.2.2.2.2.2.2.2.2.2.2.2.2.2⟩) ?_
  clear hK K'
  go_simp
  iterate 1 (refine ord_pure rfl rfl rfl (fun K' hK => ?_); go_big_quiet_op; refine hK _ ?_; clear hK K')
  refine ord_load (t := 279) rfl rfl rfl (p := .pointer (some ⟨x8, 1, none⟩)) (v := .pointer none) rfl (fun w' hC => load_one Tryz.underlying279 rfl hC.2) (fun K' hK => ?_)
  go_simp
  refine hK _ ?_
  clear hK K'
  iterate 1 (refine ord_pure rfl rfl rfl (fun K' hK => ?_); go_big_quiet_op; refine hK _ ?_; clear hK K')
  refine ord_nil ?_
  clear hb8 hS9
  go_wp2_with fail
  rw [rounds_succ]
  go_wp2_with fail
  have hL9 : Sat B w0 z8 (arr 208 1 v9 9 [.slice none 0 0, .slice none 0 0, .slice none 0 0, .slice none 0 0, .slice none 0 0, .slice none 0 0, .slice none 0 0, .slice none 0 0, .slice A 1 c] • blk q (.cells SB 36) • T) := hV8
  obtain ⟨g, cap, cur, hv9, _, _, _, q4, hO⟩ : ∃ g cap cur, v9 = .slice (some ⟨g, 0, none⟩) 9 cap ∧ 9 ≤ cap ∧ cap ≤ maxLen ∧ cur.size = cap * 1 ∧ cur.toList.take (9 * 1) = [.slice none 0 0, .slice none 0 0, .slice none 0 0, .slice none 0 0, .slice none 0 0, .slice none 0 0, .slice none 0 0, .slice none 0 0, .slice A 1 c] ∧ Sat B w0 z8 (blk g (.cells cur 208 (0, 0)) • blk q (.cells SB 36) • T) := by
    rcases hL9.arr_open with ⟨_, h0, _, _⟩ | hh
    · cases h0
    · exact hh
  subst hv9
  have hcur : cur = (([.slice none 0 0, .slice none 0 0, .slice none 0 0, .slice none 0 0, .slice none 0 0, .slice none 0 0, .slice none 0 0, .slice none 0 0, .slice A 1 c] : List Value) ++ cur.toList.drop 9).toArray := by
    rw [← q4, Nat.mul_one, List.take_append_drop]
  rw [hcur] at hO
  have cv := reverse9_any (c := cap) (tl := cur.toList.drop 9) (show Sat B w0 z8 (blk g (.cells (.slice none 0 0 :: .slice none 0 0 :: .slice none 0 0 :: .slice none 0 0 :: .slice none 0 0 :: .slice none 0 0 :: .slice none 0 0 :: .slice none 0 0 :: .slice A 1 c :: cur.toList.drop 9).toArray 208) • (blk q (.cells SB 36) • T)) from hO)
  clear hL9 hO hcur q4 hV8
  refine cv.mono ?_
  rintro e u10 ⟨rfl, hR⟩
  have hR2 := hR.pull2.drop
  rw [← hT] at hR2
  have cc := concat9_any (c := cap) hR2
  clear cv hR hR2
  go_wp2_with fail
  refine cc.mono ?_
  rintro e u11 ⟨v', rfl, hC⟩
  rw [hT] at hC
  have HF := Lib.hid (hidb _ _ hC)
  clear cc hC
  go_wp2_with fail
  go_ret
  exact ⟨v', rfl, HF.out⟩
end Go.Proofs.YtdcekoocnoackaaGreatDoor
