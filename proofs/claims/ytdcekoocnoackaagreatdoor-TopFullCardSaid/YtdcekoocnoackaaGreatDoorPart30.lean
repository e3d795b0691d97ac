import Derived.Test.YtdcekoocnoackaaGreatDoorPart19
import Derived.Test.YtdcekoocnoackaaGreatDoorPart29
import Derived.Test.YtdcekoocnoackaaGreatDoorPart18
import Derived.Test.YtdcekoocnoackaaGreatDoorPart11

/-! slices.Reverse, slices.Concat at what a trie answers. -/
namespace Go.Proofs.YtdcekoocnoackaaGreatDoor
open Go Go.RowKit

attribute [local irreducible] wpOrd
set_option maxRecDepth 8000 in
set_option maxHeartbeats 8000000 in
theorem reverse9_any {B : Nat} {w0 w : World} {F : HP} {g c : Nat} {a0 a1 a2 a3 a4 a5 a6 a7 a8 : Option Addr} {n0 c0 n1 c1 n2 c2 n3 c3 n4 c4 n5 c5 n6 c6 n7 c7 n8 c8 : Nat} {tl : List Value} (h : Sat B w0 w (blk g (.cells ((.slice a0 n0 c0) :: (.slice a1 n1 c1) :: (.slice a2 n2 c2) :: (.slice a3 n3 c3) :: (.slice a4 n4 c4) :: (.slice a5 n5 c5) :: (.slice a6 n6 c6) :: (.slice a7 n7 c7) :: (.slice a8 n8 c8) :: tl).toArray 208) • F)) :
    Calls Tryz.prog 180 #[.slice (some ⟨g, 0, none⟩) 9 c] w fun e w' => e = .returned (.tuple #[]) ∧ Sat B w0 w' (blk g (.cells ((.slice a8 n8 c8) :: (.slice a7 n7 c7) :: (.slice a6 n6 c6) :: (.slice a5 n5 c5) :: (.slice a4 n4 c4) :: (.slice a3 n3 c3) :: (.slice a2 n2 c2) :: (.slice a1 n1 c1) :: (.slice a0 n0 c0) :: tl).toArray 208) • F) := by
  have hS0 := h
  clear h
  go_enter Tryz.func180, Tryz.ntmps180
  go_wp2_with fail
  refine wp_loop_rounds 5 ?_
  rw [rounds_succ]
  go_wp2_with fail
  try go_frame
  obtain ⟨Wa0, hst1, hA0⟩ := one_storeS (o := 0) (ty := 208) (u := (.slice a8 n8 c8)) hS0.drew (by kernel_rfl) (by simp) rfl rfl
  simp only [List.setIfInBounds_toArray, List.set_cons_zero] at hA0
  obtain ⟨Wb0, hst2, hS1⟩ := one_storeS (o := 8) (ty := 208) (u := (.slice a0 n0 c0)) hA0 (by kernel_rfl) (by simp) rfl rfl
  simp only [List.setIfInBounds_toArray, List.set_cons_zero, List.set_cons_succ] at hS1
  refine wp_region_ord [(0, .pure), (1, .pure), (2, .pure), (3, .pure), (4, .pure), (5, .pure), (6, .pure), (7, .quiet), (8, .pure), (9, .pure), (10, .pure), (11, .quiet), (12, .pure), (13, .seals), (14, .pure), (15, .seals)] (by kernel_rfl) (by kernel_rfl)
    (fun w' => w'.cell? ⟨g, 0, none⟩ = some (.slice a0 n0 c0) ∧ w'.cell? ⟨g, 8, none⟩ = some (.slice a8 n8 c8)) ⟨cell_heap hS0.drew.heap rfl, cell_heap hS0.drew.heap rfl⟩ ?_
  iterate 7 (refine ord_pure rfl rfl rfl (fun K' hK => ?_); go_big_quiet_op; refine hK _ ?_; clear hK K')
  refine ord_load (t := 208) rfl rfl rfl (p := .pointer (some ⟨g, 8, none⟩)) (v := (.slice a8 n8 c8)) rfl (fun w' hC => load_one Tryz.underlying208 rfl hC.2) (fun K' hK => ?_)
  go_simp
  refine hK _ ?_
  clear hK K'
  iterate 3 (refine ord_pure rfl rfl rfl (fun K' hK => ?_); go_big_quiet_op; refine hK _ ?_; clear hK K')
  refine ord_load (t := 208) rfl rfl rfl (p := .pointer (some ⟨g, 0, none⟩)) (v := (.slice a0 n0 c0)) rfl (fun w' hC => load_one Tryz.underlying208 rfl hC.1) (fun K' hK => ?_)
  go_simp
  refine hK _ ?_
  clear hK K'
  iterate 1 (refine ord_pure rfl rfl rfl (fun K' hK => ?_); go_big_quiet_op; refine hK _ ?_; clear hK K')
  refine ord_seals rfl rfl (fun K' hK => wp_store_run rfl rfl rfl hst1 (hK (fun _ => True) _ _ trivial ?_))
  clear hK K'
  go_simp
  iterate 1 (refine ord_pure rfl rfl rfl (fun K' hK => ?_); go_big_quiet_op; refine hK _ ?_; clear hK K')
  refine ord_store rfl rfl rfl rfl (p := .pointer (some ⟨g, 8, none⟩)) (v := (.slice a0 n0 c0)) rfl rfl hst2 (fun _ => True) trivial ?_
  refine ord_nil ?_
  clear hst1 hst2 hA0 hS0
  go_wp2_with fail
  rw [rounds_succ]
  go_wp2_with fail
  try go_frame
  obtain ⟨Wa1, hst1, hA1⟩ := one_storeS (o := 1) (ty := 208) (u := (.slice a7 n7 c7)) hS1.drew (by kernel_rfl) (by simp) rfl rfl
  simp only [List.setIfInBounds_toArray, List.set_cons_zero, List.set_cons_succ] at hA1
  obtain ⟨Wb1, hst2, hS2⟩ := one_storeS (o := 7) (ty := 208) (u := (.slice a1 n1 c1)) hA1 (by kernel_rfl) (by simp) rfl rfl
  simp only [List.setIfInBounds_toArray, List.set_cons_zero, List.set_cons_succ] at hS2
  refine wp_region_ord [(0, .pure), (1, .pure), (2, .pure), (3, .pure), (4, .pure), (5, .pure), (6, .pure), (7, .quiet), (8, .pure), (9, .pure), (10, .pure), (11, .quiet), (12, .pure), (13, .seals), (14, .pure), (15, .seals)] (by kernel_rfl) (by kernel_rfl)
    (fun w' => w'.cell? ⟨g, 1, none⟩ = some (.slice a1 n1 c1) ∧ w'.cell? ⟨g, 7, none⟩ = some (.slice a7 n7 c7)) ⟨cell_heap hS1.drew.heap rfl, cell_heap hS1.drew.heap rfl⟩ ?_
  iterate 7 (refine ord_pure rfl rfl rfl (fun K' hK => ?_); go_big_quiet_op; refine hK _ ?_; clear hK K')
  refine ord_load (t := 208) rfl rfl rfl (p := .pointer (some ⟨g, 7, none⟩)) (v := (.slice a7 n7 c7)) rfl (fun w' hC => load_one Tryz.underlying208 rfl hC.2) (fun K' hK => ?_)
  go_simp
  refine hK _ ?_
  clear hK K'
  iterate 3 (refine ord_pure rfl rfl rfl (fun K' hK => ?_); go_big_quiet_op; refine hK _ ?_; clear hK K')
  refine ord_load (t := 208) rfl rfl rfl (p := .pointer (some ⟨g, 1, none⟩)) (v := (.slice a1 n1 c1)) rfl (fun w' hC => load_one Tryz.underlying208 rfl hC.1) (fun K' hK => ?_)
  go_simp
  refine hK _ ?_
  clear hK K'
  iterate 1 (refine ord_pure rfl rfl rfl (fun K' hK => ?_); go_big_quiet_op; refine hK _ ?_; clear hK K')
  refine ord_seals rfl rfl (fun K' hK => wp_store_run rfl rfl rfl hst1 (hK (fun _ => True) _ _ trivial ?_))
  clear hK K'
  go_simp
  iterate 1 (refine ord_pure rfl rfl rfl (fun K' hK => ?_); go_big_quiet_op; refine hK _ ?_; clear hK K')
  refine ord_store rfl rfl rfl rfl (p := .pointer (some ⟨g, 7, none⟩)) (v := (.slice a1 n1 c1)) rfl rfl hst2 (fun _ => True) trivial ?_
  refine ord_nil ?_
  clear hst1 hst2 hA1 hS1
  go_wp2_with fail
  rw [rounds_succ]
  go_wp2_with fail
  try go_frame
  obtain ⟨Wa2, hst1, hA2⟩ := one_storeS (o := 2) (ty := 208) (u := (.slice a6 n6 c6)) hS2.drew (by kernel_rfl) (by simp) rfl rfl
  simp only [List.setIfInBounds_toArray, List.set_cons_zero, List.set_cons_succ] at hA2
  obtain ⟨Wb2, hst2, hS3⟩ := one_storeS (o := 6) (ty := 208) (u := (.slice a2 n2 c2)) hA2 (by kernel_rfl) (by simp) rfl rfl
  simp only [List.setIfInBounds_toArray, List.set_cons_zero, List.set_cons_succ] at hS3
  refine wp_region_ord [(0, .pure), (1, .pure), (2, .pure), (3, .pure), (4, .pure), (5, .pure), (6, .pure), (7, .quiet), (8, .pure), (9, .pure), (10, .pure), (11, .quiet), (12, .pure), (13, .seals), (14, .pure), (15, .seals)] (by kernel_rfl) (by kernel_rfl)
    (fun w' => w'.cell? ⟨g, 2, none⟩ = some (.slice a2 n2 c2) ∧ w'.cell? ⟨g, 6, none⟩ = some (.slice a6 n6 c6)) ⟨cell_heap hS2.drew.heap rfl, cell_heap hS2.drew.heap rfl⟩ ?_
  iterate 7 (refine ord_pure rfl rfl rfl (fun K' hK => ?_); go_big_quiet_op; refine hK _ ?_; clear hK K')
  refine ord_load (t := 208) rfl rfl rfl (p := .pointer (some ⟨g, 6, none⟩)) (v := (.slice a6 n6 c6)) rfl (fun w' hC => load_one Tryz.underlying208 rfl hC.2) (fun K' hK => ?_)
  go_simp
  refine hK _ ?_
  clear hK K'
  iterate 3 (refine ord_pure rfl rfl rfl (fun K' hK => ?_); go_big_quiet_op; refine hK _ ?_; clear hK K')
  refine ord_load (t := 208) rfl rfl rfl (p := .pointer (some ⟨g, 2, none⟩)) (v := (.slice a2 n2 c2)) rfl (fun w' hC => load_one Tryz.underlying208 rfl hC.1) (fun K' hK => ?_)
  go_simp
  refine hK _ ?_
  clear hK K'
  iterate 1 (refine ord_pure rfl rfl rfl (fun K' hK => ?_); go_big_quiet_op; refine hK _ ?_; clear hK K')
  refine ord_seals rfl rfl (fun K' hK => wp_store_run rfl rfl rfl hst1 (hK (fun _ => True) _ _ trivial ?_))
  clear hK K'
  go_simp
  iterate 1 (refine ord_pure rfl rfl rfl (fun K' hK => ?_); go_big_quiet_op; refine hK _ ?_; clear hK K')
  refine ord_store rfl rfl rfl rfl (p := .pointer (some ⟨g, 6, none⟩)) (v := (.slice a2 n2 c2)) rfl rfl hst2 (fun _ => True) trivial ?_
  refine ord_nil ?_
  clear hst1 hst2 hA2 hS2
  go_wp2_with fail
  rw [rounds_succ]
  go_wp2_with fail
  try go_frame
  obtain ⟨Wa3, hst1, hA3⟩ := one_storeS (o := 3) (ty := 208) (u := (.slice a5 n5 c5)) hS3.drew (by kernel_rfl) (by simp) rfl rfl
  simp only [List.setIfInBounds_toArray, List.set_cons_zero, List.set_cons_succ] at hA3
  obtain ⟨Wb3, hst2, hS4⟩ := one_storeS (o := 5) (ty := 208) (u := (.slice a3 n3 c3)) hA3 (by kernel_rfl) (by simp) rfl rfl
  simp only [List.setIfInBounds_toArray, List.set_cons_zero, List.set_cons_succ] at hS4
  refine wp_region_ord [(0, .pure), (1, .pure), (2, .pure), (3, .pure), (4, .pure), (5, .pure), (6, .pure), (7, .quiet), (8, .pure), (9, .pure), (10, .pure), (11, .quiet), (12, .pure), (13, .seals), (14, .pure), (15, .seals)] (by kernel_rfl) (by kernel_rfl)
    (fun w' => w'.cell? ⟨g, 3, none⟩ = some (.slice a3 n3 c3) ∧ w'.cell? ⟨g, 5, none⟩ = some (.slice a5 n5 c5)) ⟨cell_heap hS3.drew.heap rfl, cell_heap hS3.drew.heap rfl⟩ ?_
  iterate 7 (refine ord_pure rfl rfl rfl (fun K' hK => ?_); go_big_quiet_op; refine hK _ ?_; clear hK K')
  refine ord_load (t := 208) rfl rfl rfl (p := .pointer (some ⟨g, 5, none⟩)) (v := (.slice a5 n5 c5)) rfl (fun w' hC => load_one Tryz.underlying208 rfl hC.2) (fun K' hK => ?_)
  go_simp
  refine hK _ ?_
  clear hK K'
  iterate 3 (refine ord_pure rfl rfl rfl (fun K' hK => ?_); go_big_quiet_op; refine hK _ ?_; clear hK K')
  refine ord_load (t := 208) rfl rfl rfl (p := .pointer (some ⟨g, 3, none⟩)) (v := (.slice a3 n3 c3)) rfl (fun w' hC => load_one Tryz.underlying208 rfl hC.1) (fun K' hK => ?_)
  go_simp
  refine hK _ ?_
  clear hK K'
  iterate 1 (refine ord_pure rfl rfl rfl (fun K' hK => ?_); go_big_quiet_op; refine hK _ ?_; clear hK K')
  refine ord_seals rfl rfl (fun K' hK => wp_store_run rfl rfl rfl hst1 (hK (fun _ => True) _ _ trivial ?_))
  clear hK K'
  go_simp
  iterate 1 (refine ord_pure rfl rfl rfl (fun K' hK => ?_); go_big_quiet_op; refine hK _ ?_; clear hK K')
  refine ord_store rfl rfl rfl rfl (p := .pointer (some ⟨g, 5, none⟩)) (v := (.slice a3 n3 c3)) rfl rfl hst2 (fun _ => True) trivial ?_
  refine ord_nil ?_
  clear hst1 hst2 hA3 hS3
  go_wp2_with fail
  rw [rounds_succ]
  go_wp2_with fail
  go_end0
  exact ⟨rfl, hS4⟩
end Go.Proofs.YtdcekoocnoackaaGreatDoor

/-! slices.Concat of nine slices of which but the first holds a number. -/
namespace Go.Proofs.YtdcekoocnoackaaGreatDoor
open Go Go.RowKit

set_option maxRecDepth 8000 in
set_option maxHeartbeats 8000000 in
theorem concat9_any {B : Nat} {w0 w : World} {F : HP} {g c c0 : Nat} {A : Option Addr} {tl : List Value} (h : Sat B w0 w (blk g (.cells (.slice A 1 c0 :: .slice none 0 0 :: .slice none 0 0 :: .slice none 0 0 :: .slice none 0 0 :: .slice none 0 0 :: .slice none 0 0 :: .slice none 0 0 :: .slice none 0 0 :: tl).toArray 208) • arr 3 1 (.slice A 1 c0) 1 [.int .i64 2] • F)) :
    Calls Tryz.prog 181 #[.slice (some ⟨g, 0, none⟩) 9 c] w fun e w' => ∃ v', e = .returned v' ∧ Sat B w0 w' (arr 3 1 v' 1 [.int .i64 2] • arr 3 1 (.slice A 1 c0) 1 [.int .i64 2] • F) := by
  have hd : ∀ W, Sat B w0 W (blk g (.cells (.slice A 1 c0 :: .slice none 0 0 :: .slice none 0 0 :: .slice none 0 0 :: .slice none 0 0 :: .slice none 0 0 :: .slice none 0 0 :: .slice none 0 0 :: .slice none 0 0 :: tl).toArray 208) • arr 3 1 (.slice A 1 c0) 1 [.int .i64 2] • F) → W.cell? ⟨g, 0, none⟩ = some (.slice A 1 c0) ∧ W.cell? ⟨g, 1, none⟩ = some (.slice none 0 0) ∧ W.cell? ⟨g, 2, none⟩ = some (.slice none 0 0) ∧ W.cell? ⟨g, 3, none⟩ = some (.slice none 0 0) ∧ W.cell? ⟨g, 4, none⟩ = some (.slice none 0 0) ∧ W.cell? ⟨g, 5, none⟩ = some (.slice none 0 0) ∧ W.cell? ⟨g, 6, none⟩ = some (.slice none 0 0) ∧ W.cell? ⟨g, 7, none⟩ = some (.slice none 0 0) ∧ W.cell? ⟨g, 8, none⟩ = some (.slice none 0 0) := fun W hW => ⟨cell_heap hW.heap rfl, cell_heap hW.heap rfl, cell_heap hW.heap rfl, cell_heap hW.heap rfl, cell_heap hW.heap rfl, cell_heap hW.heap rfl, cell_heap hW.heap rfl, cell_heap hW.heap rfl, cell_heap hW.heap rfl⟩
  have HD := Lib.hid hd
  have cg := growi_any 1 (by decide) (by decide) h
  obtain ⟨d0, d1, d2, d3, d4, d5, d6, d7, d8⟩ := hd _ h
  clear h hd
  go_enter Tryz.func181, Tryz.ntmps181
  go_wp2_with fail
  refine wp_loop_rounds 10 ?_
  rw [rounds_succ]
  go_wp2_with fail
  rw [rounds_succ]
  go_wp2_with fail
  rw [rounds_succ]
  go_wp2_with fail
  rw [rounds_succ]
  go_wp2_with fail
  rw [rounds_succ]
  go_wp2_with fail
  rw [rounds_succ]
  go_wp2_with fail
  rw [rounds_succ]
  go_wp2_with fail
  rw [rounds_succ]
  go_wp2_with fail
  rw [rounds_succ]
  go_wp2_with fail
  rw [rounds_succ]
  go_wp2_with fail
  refine cg.mono ?_
  rintro e w1 ⟨gg, cc, rfl, hS0⟩
  clear cg d0 d1 d2 d3 d4 d5 d6 d7 d8
  go_wp2_with fail
  refine wp_loop_rounds 10 ?_
  rw [rounds_succ]
  obtain ⟨d0, d1, d2, d3, d4, d5, d6, d7, d8⟩ := HD.out _ hS0.drop
  obtain ⟨v1, u1, hr1, hS1⟩ := hS0.append (m := 1) (news := [.int .i64 2]) (t := 208) (ty := 208) (P := Tryz.prog) (x := .slice A 1 c0) Tryz.underlying208 (by kernel_rfl : (Tryz.prog.info? 3).map (fun i => (i.zero, i.size, i.bytes)) = some (some (.int .i64 0), 1, 8)) rfl (by decide) (hS0.drop.drop.arr_reads) rfl (by intro u hu; simp at hu; rw [hu]; rfl) (by decide) (by decide)
  go_wp2_with (at_builtin; refine wpList_append_run rfl _ _ _ rfl rfl rfl hr1 (stop_ ?_))
  unfold Stop
  clear hr1 d0 d1 d2 d3 d4 d5 d6 d7 d8
  go_wp2_with fail
  rw [rounds_succ]
  obtain ⟨d0, d1, d2, d3, d4, d5, d6, d7, d8⟩ := HD.out _ hS1.drop
  obtain ⟨v2, u2, hr2, hS2⟩ := hS1.append (m := 0) (news := []) (t := 208) (ty := 208) (P := Tryz.prog) (x := .slice none 0 0) Tryz.underlying208 (by kernel_rfl : (Tryz.prog.info? 3).map (fun i => (i.zero, i.size, i.bytes)) = some (some (.int .i64 0), 1, 8)) rfl (by decide) (.inl ⟨0, rfl, rfl, rfl⟩) rfl (by intro u hu; simp at hu) (by decide) (by decide)
  go_wp2_with (at_builtin; refine wpList_append_run rfl _ _ _ rfl rfl rfl hr2 (stop_ ?_))
  unfold Stop
  clear hr2 d0 d1 d2 d3 d4 d5 d6 d7 d8
  go_wp2_with fail
  rw [rounds_succ]
  obtain ⟨d0, d1, d2, d3, d4, d5, d6, d7, d8⟩ := HD.out _ hS2.drop
  obtain ⟨v3, u3, hr3, hS3⟩ := hS2.append (m := 0) (news := []) (t := 208) (ty := 208) (P := Tryz.prog) (x := .slice none 0 0) Tryz.underlying208 (by kernel_rfl : (Tryz.prog.info? 3).map (fun i => (i.zero, i.size, i.bytes)) = some (some (.int .i64 0), 1, 8)) rfl (by decide) (.inl ⟨0, rfl, rfl, rfl⟩) rfl (by intro u hu; simp at hu) (by decide) (by decide)
  go_wp2_with (at_builtin; refine wpList_append_run rfl _ _ _ rfl rfl rfl hr3 (stop_ ?_))
  unfold Stop
  clear hr3 d0 d1 d2 d3 d4 d5 d6 d7 d8
  go_wp2_with fail
  rw [rounds_succ]
  obtain ⟨d0, d1, d2, d3, d4, d5, d6, d7, d8⟩ := HD.out _ hS3.drop
  obtain ⟨v4, u4, hr4, hS4⟩ := hS3.append (m := 0) (news := []) (t := 208) (ty := 208) (P := Tryz.prog) (x := .slice none 0 0) Tryz.underlying208 (by kernel_rfl : (Tryz.prog.info? 3).map (fun i => (i.zero, i.size, i.bytes)) = some (some (.int .i64 0), 1, 8)) rfl (by decide) (.inl ⟨0, rfl, rfl, rfl⟩) rfl (by intro u hu; simp at hu) (by decide) (by decide)
  go_wp2_with (at_builtin; refine wpList_append_run rfl _ _ _ rfl rfl rfl hr4 (stop_ ?_))
  unfold Stop
  clear hr4 d0 d1 d2 d3 d4 d5 d6 d7 d8
  go_wp2_with fail
  rw [rounds_succ]
  obtain ⟨d0, d1, d2, d3, d4, d5, d6, d7, d8⟩ := HD.out _ hS4.drop
  obtain ⟨v5, u5, hr5, hS5⟩ := hS4.append (m := 0) (news := []) (t := 208) (ty := 208) (P := Tryz.prog) (x := .slice none 0 0) Tryz.underlying208 (by kernel_rfl : (Tryz.prog.info? 3).map (fun i => (i.zero, i.size, i.bytes)) = some (some (.int .i64 0), 1, 8)) rfl (by decide) (.inl ⟨0, rfl, rfl, rfl⟩) rfl (by intro u hu; simp at hu) (by decide) (by decide)
  go_wp2_with (at_builtin; refine wpList_append_run rfl _ _ _ rfl rfl rfl hr5 (stop_ ?_))
  unfold Stop
  clear hr5 d0 d1 d2 d3 d4 d5 d6 d7 d8
  go_wp2_with fail
  rw [rounds_succ]
  obtain ⟨d0, d1, d2, d3, d4, d5, d6, d7, d8⟩ := HD.out _ hS5.drop
  obtain ⟨v6, u6, hr6, hS6⟩ := hS5.append (m := 0) (news := []) (t := 208) (ty := 208) (P := Tryz.prog) (x := .slice none 0 0) Tryz.underlying208 (by kernel_rfl : (Tryz.prog.info? 3).map (fun i => (i.zero, i.size, i.bytes)) = some (some (.int .i64 0), 1, 8)) rfl (by decide) (.inl ⟨0, rfl, rfl, rfl⟩) rfl (by intro u hu; simp at hu) (by decide) (by decide)
  go_wp2_with (at_builtin; refine wpList_append_run rfl _ _ _ rfl rfl rfl hr6 (stop_ ?_))
  unfold Stop
  clear hr6 d0 d1 d2 d3 d4 d5 d6 d7 d8
  go_wp2_with fail
  rw [rounds_succ]
  obtain ⟨d0, d1, d2, d3, d4, d5, d6, d7, d8⟩ := HD.out _ hS6.drop
  obtain ⟨v7, u7, hr7, hS7⟩ := hS6.append (m := 0) (news := []) (t := 208) (ty := 208) (P := Tryz.prog) (x := .slice none 0 0) Tryz.underlying208 (by kernel_rfl : (Tryz.prog.info? 3).map (fun i => (i.zero, i.size, i.bytes)) = some (some (.int .i64 0), 1, 8)) rfl (by decide) (.inl ⟨0, rfl, rfl, rfl⟩) rfl (by intro u hu; simp at hu) (by decide) (by decide)
  go_wp2_with (at_builtin; refine wpList_append_run rfl _ _ _ rfl rfl rfl hr7 (stop_ ?_))
  unfold Stop
  clear hr7 d0 d1 d2 d3 d4 d5 d6 d7 d8
  go_wp2_with fail
  rw [rounds_succ]
  obtain ⟨d0, d1, d2, d3, d4, d5, d6, d7, d8⟩ := HD.out _ hS7.drop
  obtain ⟨v8, u8, hr8, hS8⟩ := hS7.append (m := 0) (news := []) (t := 208) (ty := 208) (P := Tryz.prog) (x := .slice none 0 0) Tryz.underlying208 (by kernel_rfl : (Tryz.prog.info? 3).map (fun i => (i.zero, i.size, i.bytes)) = some (some (.int .i64 0), 1, 8)) rfl (by decide) (.inl ⟨0, rfl, rfl, rfl⟩) rfl (by intro u hu; simp at hu) (by decide) (by decide)
  go_wp2_with (at_builtin; refine wpList_append_run rfl _ _ _ rfl rfl rfl hr8 (stop_ ?_))
  unfold Stop
  clear hr8 d0 d1 d2 d3 d4 d5 d6 d7 d8
  go_wp2_with fail
  rw [rounds_succ]
  obtain ⟨d0, d1, d2, d3, d4, d5, d6, d7, d8⟩ := HD.out _ hS8.drop
  obtain ⟨v9, u9, hr9, hS9⟩ := hS8.append (m := 0) (news := []) (t := 208) (ty := 208) (P := Tryz.prog) (x := .slice none 0 0) Tryz.underlying208 (by kernel_rfl : (Tryz.prog.info? 3).map (fun i => (i.zero, i.size, i.bytes)) = some (some (.int .i64 0), 1, 8)) rfl (by decide) (.inl ⟨0, rfl, rfl, rfl⟩) rfl (by intro u hu; simp at hu) (by decide) (by decide)
  go_wp2_with (at_builtin; refine wpList_append_run rfl _ _ _ rfl rfl rfl hr9 (stop_ ?_))
  unfold Stop
  clear hr9 d0 d1 d2 d3 d4 d5 d6 d7 d8
  go_wp2_with fail
  rw [rounds_succ]
  go_wp2_with fail
  go_ret
  exact ⟨v9, rfl, hS9.pull2.drop⟩
end Go.Proofs.YtdcekoocnoackaaGreatDoor

/-! The reference's Over, BuildUdp. -/
namespace Go.Proofs.YtdcekoocnoackaaGreatDoor
open Go Go.RowKit

def adA : Array Value := #[.bool false, .int .u8 1, .int .u8 1, .int .u8 1, .int .u8 1, .int .u8 0, .int .u8 0, .int .u8 0, .int .u8 0, .int .u8 0, .int .u8 0, .int .u8 0, .int .u8 0, .int .u8 0, .int .u8 0, .int .u8 0, .int .u8 0]
def adB : Array Value := #[.bool false, .int .u8 10, .int .u8 0, .int .u8 0, .int .u8 1, .int .u8 0, .int .u8 0, .int .u8 0, .int .u8 0, .int .u8 0, .int .u8 0, .int .u8 0, .int .u8 0, .int .u8 0, .int .u8 0, .int .u8 0, .int .u8 0]
attribute [local irreducible] wpOrd
set_option maxRecDepth 8000 in
set_option maxHeartbeats 1000000 in
theorem rport_in (x : Int) (h1 : 0 ≤ x) (h2 : x ≤ 65535) (w : World) : Calls Tryz.prog 75 #[.int .i64 x] w fun e w' => e = .returned (.bool true) ∧ w' = w := by
  go_enter Tryz.func75, Tryz.ntmps75
  go_wp2_with fail
  go_ret
  exact ⟨rfl, rfl⟩
set_option maxRecDepth 8000 in
set_option maxHeartbeats 4000000 in
theorem over_any {B : Nat} {w0 w : World} {F : HP} {vb : Value} {bs : List Int} (hb : Byt8 bs) (hlen : bs.length = 8) (hs : 3100 + wsum bs ≤ 65535) (h : Sat B w0 w (byt vb bs • F)) :
    Calls Tryz.prog 78 #[.agg adA, .agg adB, .int .i64 17, vb] w fun e w' => e = .returned (.int .i64 (65535 - (3100 + wsum bs))) ∧ Sat B w0 w' (byt vb bs • F) := by
  obtain ⟨Ab, cb, rfl⟩ := h.bytForm
  have hS1 := h.alloc (.cells adA 36)
  have hS2 := hS1.alloc (.cells adB 36)
  have hSA : adA.size = 17 := rfl
  have hSB : adB.size = 17 := rfl
  have hA0 : adA[0]? = some (.bool false) := rfl
  have hld : ∀ (W : World) (b : Nat) (S : Array Value), S.size = 17 → W.heap[b]? = some (.cells S 36) → (Instr.loadAt 36 (.pointer (some ⟨b, 0, none⟩))).run Tryz.prog W = .ok (.agg S) W := fun W b S hS hW =>
    run_loadAt_row (cs := S.toList) hW Tryz.underlying36 rfl (by rw [Array.length_toList, hS]; kernel_rfl) (fun j u hu => by simpa using hu)
  have c1 : ∀ (W : World) (G : HP), Sat B w0 W G → Calls Tryz.prog 141 #[.agg adA, .bool false] W fun e w' => ∃ v', e = .returned v' ∧ Sat B w0 w' (byt v' [1, 1, 1, 1] • G) := fun W G hG => bytesOf_4 1 1 1 1 hG
  have c2 : ∀ (W : World) (G : HP), Sat B w0 W G → Calls Tryz.prog 141 #[.agg adB, .bool false] W fun e w' => ∃ v', e = .returned v' ∧ Sat B w0 w' (byt v' [10, 0, 0, 1] • G) := fun W G hG => bytesOf_4 10 0 0 1 hG
  have d1 : ∀ W G, Sat B w0 W (blk w.heap.size (.cells adA 36) • G) → W.cell? ⟨w.heap.size, 0, none⟩ = some (.bool false) := fun W G hG => cell_heap hG.heap rfl
  generalize adA = SA at *
  generalize adB = SB at *
  rw [World.size_alloc] at hS2
  have HL := Lib.hid hlen
  rw [hlen] at hS2 ⊢
  clear hlen
  clear h hS1
  go_enter Tryz.func78, Tryz.ntmps78
  go_wp2_with fail
  try go_frame
  generalize hq1 : w.heap.size = q1 at *
  generalize hq2 : q1 + 1 = q2 at *
  refine wp_region_ord [(0, .quiet), (1, .pure), (2, .quiet), (4, .quiet), (5, .pure), (6, .quiet), (3, .acts), (7, .acts), (8, .acts), (9, .pure)] (by kernel_rfl) (by kernel_rfl)
    (fun w' => w'.heap[q1]? = some (.cells SA 36) ∧ w'.heap[q2]? = some (.cells SB 36)) ⟨hS2.drew.pull2.heap, hS2.drew.heap⟩ ?_
  refine ord_load (t := 36) rfl rfl rfl (p := .pointer (some ⟨q1, 0, none⟩)) (v := .agg SA) rfl (fun w' hC => hld _ _ _ hSA hC.1) (fun K' hK => ?_)
  go_simp
  refine hK _ ?_
  clear hK K'
  iterate 1 (refine ord_pure rfl rfl rfl (fun K' hK => ?_); go_big_quiet_op; refine hK _ ?_; clear hK K')
  refine ord_load (t := 4) rfl rfl rfl (p := .pointer (some ⟨q1, 0, none⟩)) (v := .bool false) rfl (fun w' hC => run_loadAt_one hC.1 Tryz.underlying4 rfl hA0) (fun K' hK => ?_)
  go_simp
  refine hK _ ?_
  clear hK K'
  refine ord_load (t := 36) rfl rfl rfl (p := .pointer (some ⟨q2, 0, none⟩)) (v := .agg SB) rfl (fun w' hC => hld _ _ _ hSB hC.2) (fun K' hK => ?_)
  go_simp
  refine hK _ ?_
  clear hK K'
  iterate 1 (refine ord_pure rfl rfl rfl (fun K' hK => ?_); go_big_quiet_op; refine hK _ ?_; clear hK K')
  refine ord_load (t := 4) rfl rfl rfl (p := .pointer (some ⟨q1, 0, none⟩)) (v := .bool false) rfl (fun w' hC => run_loadAt_one hC.1 Tryz.underlying4 rfl hA0) (fun K' hK => ?_)
  go_simp
  refine hK _ ?_
  clear hK K'
  refine ord_acts rfl rfl (fun K' hK => ?_)
  go_simp
  refine (c1 _ _ hS2.drew).mono ?_
  rintro e u1 ⟨x1, rfl, hU1⟩
  refine hK _ _ (⟨hU1.pull3.heap, hU1.pull2.heap⟩) ?_
  clear hK K'
  go_simp
  refine ord_acts rfl rfl (fun K' hK => ?_)
  go_simp
  refine (c2 _ _ hU1).mono ?_
  rintro e u2 ⟨x2, rfl, hU2⟩
  refine hK _ _ (⟨hU2.pull4.heap, hU2.pull3.heap⟩) ?_
  clear hK K'
  go_simp
  obtain ⟨x3, u3, hr3, hU3⟩ := hU2.pull2.bytApp (b := [10, 0, 0, 1]) hU2.pull2.pull2.bytReads (by simp)
  refine ord_acts rfl rfl (fun K' hK => wp_append_run _ _ _ rfl rfl rfl hr3 (hK _ _ ⟨hU3.pull4.heap, hU3.pull3.heap⟩ ?_))
  clear hK K'
  go_simp
  iterate 1 (refine ord_pure rfl rfl rfl (fun K' hK => ?_); go_big_quiet_op; refine hK _ ?_; clear hK K')
  refine ord_nil ?_
  have d0 := d1 _ _ hU3.pull4
  have hZ := hU3.alloc (.cells (byv [0, 17]).toArray 5)
  obtain ⟨x4, u4, hr4, hU4⟩ := hZ.pull2.bytApp (b := [0, 17]) (reads_lit (n := 2) (c := 2) rfl) (by simp)
  have c5 := put2_any 8 (by decide) (by decide) (by simp) hU4
  clear hU1 hU2 hZ hS2 d1
  go_wp2_with (at_builtin; refine wpList_append_run rfl _ _ _ rfl rfl rfl hr4 (stop_ ?_))
  unfold Stop
  clear hr4 d0 hr3
  go_wp2_with fail
  refine c5.mono ?_
  rintro e u5 ⟨x5, rfl, hU5⟩
  have hL := HL.out
  obtain ⟨x6, u6, hr6, hU6⟩ := hU5.bytApp (b := bs) (by have := hU5.drop.drop.drop.drop.drop.drop.bytReads; exact this) (by simp [hL])
  have h12 : (((([1, 1, 1, 1] ++ [10, 0, 0, 1]) ++ [0, 17]) ++ [8 / 256, 8 % 256]) ++ bs : List Int) = [1, 1, 1, 1, 10, 0, 0, 1, 0, 17, 0, 8] ++ bs := rfl
  have c7 := rsum_any (bs := (((([1, 1, 1, 1] ++ [10, 0, 0, 1]) ++ [0, 17]) ++ [8 / 256, 8 % 256]) ++ bs)) (by
      rw [h12]
      intro x hx
      rcases List.mem_append.1 hx with hx | hx
      · simp only [List.mem_cons, List.not_mem_nil, or_false] at hx
        rcases hx with rfl | rfl | rfl | rfl | rfl | rfl | rfl | rfl | rfl | rfl | rfl | rfl <;> decide
      · exact hb x hx) 10 (by rw [h12]; simp [hL]) (by decide) (by rw [h12]; simp only [List.cons_append, List.nil_append, wsum]; omega) hU6 (by decide)
  rw [h12, show wsum ([1, 1, 1, 1, 10, 0, 0, 1, 0, 17, 0, 8] ++ bs) = 3100 + wsum bs by simp only [List.cons_append, List.nil_append, wsum]; omega] at c7
  have HF := Lib.hid hU6.drop.drop.drop.drop.drop.drop
  clear c5 hU4 hU3 hU5 hU6 h12 hb hs
  go_wp2_with (at_builtin; refine wpList_append_run rfl _ _ _ rfl rfl rfl hr6 (stop_ ?_))
  unfold Stop
  clear hr6
  go_wp2_with fail
  refine c7.mono ?_
  rintro e u7 ⟨rfl, rfl⟩
  clear c7
  go_wp2_with fail
  go_ret
  exact ⟨rfl, HF.out⟩
end Go.Proofs.YtdcekoocnoackaaGreatDoor
