import Derived.Test.YtdcekoocnoackaaGreatDoorPart15

/-! addr.Right, bits, bit, RightNet, ParseNet at one prefix. -/
namespace Go.Proofs.YtdcekoocnoackaaGreatDoor
open Go Go.RowKit

set_option maxRecDepth 8000 in
set_option maxHeartbeats 1000000 in
theorem aright1_zero (w : World) : Calls Tryz.prog 198 #[.int .u8 0] w fun e w' => e = .returned (.bool false) ∧ w' = w := by
  go_enter Tryz.func198, Tryz.ntmps198
  go_wp2_with fail
  go_ret
  exact ⟨rfl, rfl⟩
set_option maxRecDepth 8000 in
set_option maxHeartbeats 2000000 in
theorem aright_4 (p q r s : Int) (w : World) : Calls Tryz.prog 131 #[.agg #[.bool false, .int .u8 p, .int .u8 q, .int .u8 r, .int .u8 s, .int .u8 0, .int .u8 0, .int .u8 0, .int .u8 0, .int .u8 0, .int .u8 0, .int .u8 0, .int .u8 0, .int .u8 0, .int .u8 0, .int .u8 0, .int .u8 0]] w fun e w' => e = .returned (.bool true) ∧ Below w.heap.size w w' := by
  have hS := (Sat.start w).alloc (.cells #[.bool false, .int .u8 p, .int .u8 q, .int .u8 r, .int .u8 s, .int .u8 0, .int .u8 0, .int .u8 0, .int .u8 0, .int .u8 0, .int .u8 0, .int .u8 0, .int .u8 0, .int .u8 0, .int .u8 0, .int .u8 0, .int .u8 0] 36)
  have hB := hS.below
  have d0 : (w.alloc (.cells #[.bool false, .int .u8 p, .int .u8 q, .int .u8 r, .int .u8 s, .int .u8 0, .int .u8 0, .int .u8 0, .int .u8 0, .int .u8 0, .int .u8 0, .int .u8 0, .int .u8 0, .int .u8 0, .int .u8 0, .int .u8 0, .int .u8 0] 36)).cell? ⟨w.heap.size, 0, none⟩ = some (.bool false) := cell_heap hS.heap rfl
  have c1 := hasB_any (w := w.alloc (.cells #[.bool false, .int .u8 p, .int .u8 q, .int .u8 r, .int .u8 s, .int .u8 0, .int .u8 0, .int .u8 0, .int .u8 0, .int .u8 0, .int .u8 0, .int .u8 0, .int .u8 0, .int .u8 0, .int .u8 0, .int .u8 0, .int .u8 0] 36)) (p := fun _ => false) (bs := [0, 0, 0, 0, 0, 0, 0, 0, 0, 0, 0, 0]) (g := w.heap.size) (o := 5) (cap := 12) (lb := #[]) (enters_of Tryz.func198 (by kernel_rfl) rfl) (by simp) (fun j x hx => by
      match j, hx with
      | 0, hx => cases hx; exact cell_heap hS.heap rfl
      | 1, hx => cases hx; exact cell_heap hS.heap rfl
      | 2, hx => cases hx; exact cell_heap hS.heap rfl
      | 3, hx => cases hx; exact cell_heap hS.heap rfl
      | 4, hx => cases hx; exact cell_heap hS.heap rfl
      | 5, hx => cases hx; exact cell_heap hS.heap rfl
      | 6, hx => cases hx; exact cell_heap hS.heap rfl
      | 7, hx => cases hx; exact cell_heap hS.heap rfl
      | 8, hx => cases hx; exact cell_heap hS.heap rfl
      | 9, hx => cases hx; exact cell_heap hS.heap rfl
      | 10, hx => cases hx; exact cell_heap hS.heap rfl
      | 11, hx => cases hx; exact cell_heap hS.heap rfl
      | (j + 12), hx => simp at hx) (fun x W hx => by
      obtain rfl : x = 0 := by simpa using hx
      exact (aright1_zero W).mono (by rintro e w' ⟨rfl, rfl⟩; exact ⟨rfl, Below.refl _ _⟩))
  generalize hW : w.alloc (.cells #[.bool false, .int .u8 p, .int .u8 q, .int .u8 r, .int .u8 s, .int .u8 0, .int .u8 0, .int .u8 0, .int .u8 0, .int .u8 0, .int .u8 0, .int .u8 0, .int .u8 0, .int .u8 0, .int .u8 0, .int .u8 0, .int .u8 0] 36) = W1 at *
  clear hS
  go_enter Tryz.func131, Tryz.ntmps131
  go_wp2_with fail
  refine c1.mono ?_
  rintro e w2 ⟨rfl, hb2⟩
  go_wp2_with fail
  go_ret
  exact ⟨rfl, hB.trans (hb2.mono hB.size)⟩
set_option maxRecDepth 8000 in
set_option maxHeartbeats 2000000 in
theorem abits_4 (p q r s : Int) (w : World) : Calls Tryz.prog 256 #[.agg #[.bool false, .int .u8 p, .int .u8 q, .int .u8 r, .int .u8 s, .int .u8 0, .int .u8 0, .int .u8 0, .int .u8 0, .int .u8 0, .int .u8 0, .int .u8 0, .int .u8 0, .int .u8 0, .int .u8 0, .int .u8 0, .int .u8 0]] w fun e w' => e = .returned (.int .i64 32) ∧ Below w.heap.size w w' := by
  have hS := (Sat.start w).alloc (.cells #[.bool false, .int .u8 p, .int .u8 q, .int .u8 r, .int .u8 s, .int .u8 0, .int .u8 0, .int .u8 0, .int .u8 0, .int .u8 0, .int .u8 0, .int .u8 0, .int .u8 0, .int .u8 0, .int .u8 0, .int .u8 0, .int .u8 0] 36)
  have hB := hS.below
  have d0 : (w.alloc (.cells #[.bool false, .int .u8 p, .int .u8 q, .int .u8 r, .int .u8 s, .int .u8 0, .int .u8 0, .int .u8 0, .int .u8 0, .int .u8 0, .int .u8 0, .int .u8 0, .int .u8 0, .int .u8 0, .int .u8 0, .int .u8 0, .int .u8 0] 36)).cell? ⟨w.heap.size, 0, none⟩ = some (.bool false) := cell_heap hS.heap rfl
  generalize hW : w.alloc (.cells #[.bool false, .int .u8 p, .int .u8 q, .int .u8 r, .int .u8 s, .int .u8 0, .int .u8 0, .int .u8 0, .int .u8 0, .int .u8 0, .int .u8 0, .int .u8 0, .int .u8 0, .int .u8 0, .int .u8 0, .int .u8 0, .int .u8 0] 36) = W1 at *
  clear hS
  go_enter Tryz.func256, Tryz.ntmps256
  go_wp2_with fail
  go_ret
  exact ⟨rfl, hB⟩
set_option maxRecDepth 8000 in
set_option maxHeartbeats 2000000 in
theorem abit_0 (k : Nat) (h1 : 8 ≤ k) (h2 : k < 32) (w : World) : Calls Tryz.prog 257 #[.agg #[.bool false, .int .u8 10, .int .u8 0, .int .u8 0, .int .u8 0, .int .u8 0, .int .u8 0, .int .u8 0, .int .u8 0, .int .u8 0, .int .u8 0, .int .u8 0, .int .u8 0, .int .u8 0, .int .u8 0, .int .u8 0, .int .u8 0], .int .i64 k] w fun e w' => e = .returned (.int .u8 0) ∧ Below w.heap.size w w' := by
  have hS := (Sat.start w).alloc (.cells #[.bool false, .int .u8 10, .int .u8 0, .int .u8 0, .int .u8 0, .int .u8 0, .int .u8 0, .int .u8 0, .int .u8 0, .int .u8 0, .int .u8 0, .int .u8 0, .int .u8 0, .int .u8 0, .int .u8 0, .int .u8 0, .int .u8 0] 36)
  have hB := hS.below
  have d0 : (w.alloc (.cells #[.bool false, .int .u8 10, .int .u8 0, .int .u8 0, .int .u8 0, .int .u8 0, .int .u8 0, .int .u8 0, .int .u8 0, .int .u8 0, .int .u8 0, .int .u8 0, .int .u8 0, .int .u8 0, .int .u8 0, .int .u8 0, .int .u8 0] 36)).cell? ⟨w.heap.size, 1 + k / 8, none⟩ = some (.int .u8 0) := by
    refine cell_heap hS.heap ?_
    rcases (show k / 8 = 1 ∨ k / 8 = 2 ∨ k / 8 = 3 by omega) with e | e | e <;> rw [e] <;> rfl
  generalize hW : w.alloc (.cells #[.bool false, .int .u8 10, .int .u8 0, .int .u8 0, .int .u8 0, .int .u8 0, .int .u8 0, .int .u8 0, .int .u8 0, .int .u8 0, .int .u8 0, .int .u8 0, .int .u8 0, .int .u8 0, .int .u8 0, .int .u8 0, .int .u8 0] 36) = W1 at *
  clear hS
  have e1 : (k : Int).tdiv 8 = ((k / 8 : Nat) : Int) := rfl
  have e2 : (k : Int).tmod 8 = ((k % 8 : Nat) : Int) := rfl
  have h3 : k / 8 < 16 := by omega
  have h4 : k % 8 < 8 := by omega
  go_enter Tryz.func257, Tryz.ntmps257
  go_wp2_with fail
  go_ret
  exact ⟨rfl, hB⟩
theorem pre_get {cs ds : List Value} {j : Nat} {u : Value} (h : cs[j]? = some u) : (cs ++ ds).toArray[j]? = some u := by
  rw [List.getElem?_toArray, List.getElem?_append_left (List.getElem?_eq_some_iff.1 h).1]; exact h
attribute [local irreducible] wpOrd
set_option maxRecDepth 8000 in
set_option maxHeartbeats 2000000 in
theorem rightNet_8 (w : World) : Calls Tryz.prog 201 #[.agg #[.bool false, .int .u8 10, .int .u8 0, .int .u8 0, .int .u8 0, .int .u8 0, .int .u8 0, .int .u8 0, .int .u8 0, .int .u8 0, .int .u8 0, .int .u8 0, .int .u8 0, .int .u8 0, .int .u8 0, .int .u8 0, .int .u8 0, .int .i64 8]] w fun e w' => e = .returned (.bool true) ∧ Below w.heap.size w w' := by
  have hS := ((Sat.start w).alloc (.cells #[.bool false, .int .u8 10, .int .u8 0, .int .u8 0, .int .u8 0, .int .u8 0, .int .u8 0, .int .u8 0, .int .u8 0, .int .u8 0, .int .u8 0, .int .u8 0, .int .u8 0, .int .u8 0, .int .u8 0, .int .u8 0, .int .u8 0, .int .i64 8] 168))
  go_enter Tryz.func201, Tryz.ntmps201
  go_wp2_with fail
  try go_frame
  refine wp_region_ord [(0, .pure), (1, .quiet), (2, .acts), (3, .pure), (4, .pure), (5, .pure), (6, .quiet), (7, .pure), (8, .pure), (9, .pure), (10, .pure), (11, .quiet), (12, .pure), (13, .quiet), (14, .acts), (15, .pure), (16, .pure)] (by kernel_rfl) (by kernel_rfl)
    (fun w' => Sat w.heap.size w w' (blk w.heap.size (.cells #[.bool false, .int .u8 10, .int .u8 0, .int .u8 0, .int .u8 0, .int .u8 0, .int .u8 0, .int .u8 0, .int .u8 0, .int .u8 0, .int .u8 0, .int .u8 0, .int .u8 0, .int .u8 0, .int .u8 0, .int .u8 0, .int .u8 0, .int .i64 8] 168) • emp)) hS.drew ?_
  iterate 1 (refine ord_pure rfl rfl rfl (fun K' hK => ?_); go_big_quiet_op; refine hK _ ?_; clear hK K')
  refine ord_load (t := 36) rfl rfl rfl (p := .pointer (some ⟨w.heap.size, 0, none⟩)) (v := .agg #[.bool false, .int .u8 10, .int .u8 0, .int .u8 0, .int .u8 0, .int .u8 0, .int .u8 0, .int .u8 0, .int .u8 0, .int .u8 0, .int .u8 0, .int .u8 0, .int .u8 0, .int .u8 0, .int .u8 0, .int .u8 0, .int .u8 0]) rfl (fun w' hC => run_loadAt_row (cs := [.bool false, .int .u8 10, .int .u8 0, .int .u8 0, .int .u8 0, .int .u8 0, .int .u8 0, .int .u8 0, .int .u8 0, .int .u8 0, .int .u8 0, .int .u8 0, .int .u8 0, .int .u8 0, .int .u8 0, .int .u8 0, .int .u8 0]) hC.heap Tryz.underlying36 rfl (by kernel_rfl) (fun j u hu => by rw [Nat.zero_add]; exact pre_get hu)) (fun K' hK => ?_)
  go_simp
  refine hK _ ?_
  clear hK K'
  have hS1 := hS.drew
  refine ord_acts rfl rfl (fun K' hK => ?_)
  go_simp
  refine (aright_4 10 0 0 0 _).mono ?_
  rintro e w1 ⟨rfl, hb1⟩
  have hC1 := hS1.below_ hb1
  refine hK _ _ (hC1) ?_
  clear hK K'
  go_simp
  iterate 3 (refine ord_pure rfl rfl rfl (fun K' hK => ?_); go_big_quiet_op; refine hK _ ?_; clear hK K')
  refine ord_load (t := 3) rfl rfl rfl (p := .pointer (some ⟨w.heap.size, 17, none⟩)) (v := .int .i64 8) rfl (fun w' hC => run_loadAt_one hC.heap Tryz.underlying3 rfl rfl) (fun K' hK => ?_)
  go_simp
  refine hK _ ?_
  clear hK K'
  iterate 4 (refine ord_pure rfl rfl rfl (fun K' hK => ?_); go_big_quiet_op; refine hK _ ?_; clear hK K')
  refine ord_load (t := 3) rfl rfl rfl (p := .pointer (some ⟨w.heap.size, 17, none⟩)) (v := .int .i64 8) rfl (fun w' hC => run_loadAt_one hC.heap Tryz.underlying3 rfl rfl) (fun K' hK => ?_)
  go_simp
  refine hK _ ?_
  clear hK K'
  iterate 1 (refine ord_pure rfl rfl rfl (fun K' hK => ?_); go_big_quiet_op; refine hK _ ?_; clear hK K')
  refine ord_load (t := 36) rfl rfl rfl (p := .pointer (some ⟨w.heap.size, 0, none⟩)) (v := .agg #[.bool false, .int .u8 10, .int .u8 0, .int .u8 0, .int .u8 0, .int .u8 0, .int .u8 0, .int .u8 0, .int .u8 0, .int .u8 0, .int .u8 0, .int .u8 0, .int .u8 0, .int .u8 0, .int .u8 0, .int .u8 0, .int .u8 0]) rfl (fun w' hC => run_loadAt_row (cs := [.bool false, .int .u8 10, .int .u8 0, .int .u8 0, .int .u8 0, .int .u8 0, .int .u8 0, .int .u8 0, .int .u8 0, .int .u8 0, .int .u8 0, .int .u8 0, .int .u8 0, .int .u8 0, .int .u8 0, .int .u8 0, .int .u8 0]) hC.heap Tryz.underlying36 rfl (by kernel_rfl) (fun j u hu => by rw [Nat.zero_add]; exact pre_get hu)) (fun K' hK => ?_)
  go_simp
  refine hK _ ?_
  clear hK K'
  refine ord_acts rfl rfl (fun K' hK => ?_)
  go_simp
  refine (abits_4 10 0 0 0 _).mono ?_
  rintro e w2 ⟨rfl, hb2⟩
  have hC2 := hC1.below_ hb2
  refine hK _ _ (hC2) ?_
  clear hK K'
  go_simp
  iterate 2 (refine ord_pure rfl rfl rfl (fun K' hK => ?_); go_big_quiet_op; refine hK _ ?_; clear hK K')
  refine ord_nil ?_
  have d0 : w2.cell? ⟨w.heap.size, 17, none⟩ = some (.int .i64 8) := cell_heap hC2.heap rfl
  clear hC1 hb2 hS hS1 hb1
  go_wp2_with fail
  go_loopw [3] (fun i wr => ∃ k : Nat, 8 ≤ k ∧ k ≤ 32 ∧ i = .int .i64 k ∧ Sat w.heap.size w wr (blk w.heap.size (.cells #[.bool false, .int .u8 10, .int .u8 0, .int .u8 0, .int .u8 0, .int .u8 0, .int .u8 0, .int .u8 0, .int .u8 0, .int .u8 0, .int .u8 0, .int .u8 0, .int .u8 0, .int .u8 0, .int .u8 0, .int .u8 0, .int .u8 0, .int .i64 8] 168) • emp)) (fun i _ => 32 - (intOf i).toNat)
  case atStart => exact ⟨8, by omega, by omega, rfl, hC2⟩
  case round =>
    clear hC2 d0
    obtain ⟨k, h1, h2, rfl, hC⟩ := hrel
    have hl : ∀ W, Sat w.heap.size w W (blk w.heap.size (.cells #[.bool false, .int .u8 10, .int .u8 0, .int .u8 0, .int .u8 0, .int .u8 0, .int .u8 0, .int .u8 0, .int .u8 0, .int .u8 0, .int .u8 0, .int .u8 0, .int .u8 0, .int .u8 0, .int .u8 0, .int .u8 0, .int .u8 0, .int .i64 8] 168) • emp) → (Instr.loadAt 36 (.pointer (some ⟨w.heap.size, 0, none⟩))).run Tryz.prog W = .ok (.agg #[.bool false, .int .u8 10, .int .u8 0, .int .u8 0, .int .u8 0, .int .u8 0, .int .u8 0, .int .u8 0, .int .u8 0, .int .u8 0, .int .u8 0, .int .u8 0, .int .u8 0, .int .u8 0, .int .u8 0, .int .u8 0, .int .u8 0]) W := fun W hC => run_loadAt_row (cs := [.bool false, .int .u8 10, .int .u8 0, .int .u8 0, .int .u8 0, .int .u8 0, .int .u8 0, .int .u8 0, .int .u8 0, .int .u8 0, .int .u8 0, .int .u8 0, .int .u8 0, .int .u8 0, .int .u8 0, .int .u8 0, .int .u8 0]) hC.heap Tryz.underlying36 rfl (by kernel_rfl) (fun j u hu => by rw [Nat.zero_add]; exact pre_get hu)
    have hl1 := hl _ hC
    go_wp2_with (refine wpList_load_run (t := 36) rfl rfl rfl hl1 (stop_ ?_))
    unfold Stop
    go_wp2_with fail
    refine (abits_4 10 0 0 0 _).mono ?_
    rintro e w3 ⟨rfl, hb3⟩
    have hC3 := hC.below_ hb3
    clear hl1 hC hb3
    by_cases hlt : k < 32
    · have hltz : (k : Int) < 32 := by omega
      have hl3 := hl _ hC3
      have c1 := abit_0 k h1 hlt w3
      go_wp2_with (refine wpList_load_run (t := 36) rfl rfl rfl hl3 (stop_ ?_))
      unfold Stop
      go_wp2_with fail
      refine c1.mono ?_
      rintro e w4 ⟨rfl, hb4⟩
      go_wp2_with fail
      go_roundw
      case rel => exact ⟨k + 1, by omega, by omega, by go_num, hC3.below_ hb4⟩
      case measure => simp [intOf]; omega
    · have hltz : ¬ (k : Int) < 32 := by omega
      have hB := hC3.below
      go_wp2_with fail
      go_ret
      exact ⟨rfl, hB⟩
end Go.Proofs.YtdcekoocnoackaaGreatDoor
