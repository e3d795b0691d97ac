import Derived.Test.YtdcekoocnoackaaGreatDoorPart34
import Derived.Test.YtdcekoocnoackaaGreatDoorPart15

/-! The reference's Right, BuildIp4. -/
namespace Go.Proofs.YtdcekoocnoackaaGreatDoor
open Go Go.RowKit

set_option maxRecDepth 8000 in
set_option maxHeartbeats 2000000 in
theorem refRight_4 (p q r s : Int) (w : World) : Calls Tryz.prog 79 #[.agg #[.bool false, .int .u8 p, .int .u8 q, .int .u8 r, .int .u8 s, .int .u8 0, .int .u8 0, .int .u8 0, .int .u8 0, .int .u8 0, .int .u8 0, .int .u8 0, .int .u8 0, .int .u8 0, .int .u8 0, .int .u8 0, .int .u8 0]] w fun e w' => e = .returned (.bool true) ∧ Below w.heap.size w w' := by
  have hS := (Sat.start w).alloc (.cells #[.bool false, .int .u8 p, .int .u8 q, .int .u8 r, .int .u8 s, .int .u8 0, .int .u8 0, .int .u8 0, .int .u8 0, .int .u8 0, .int .u8 0, .int .u8 0, .int .u8 0, .int .u8 0, .int .u8 0, .int .u8 0, .int .u8 0] 36)
  have hB := hS.below
  have d0 : (w.alloc (.cells #[.bool false, .int .u8 p, .int .u8 q, .int .u8 r, .int .u8 s, .int .u8 0, .int .u8 0, .int .u8 0, .int .u8 0, .int .u8 0, .int .u8 0, .int .u8 0, .int .u8 0, .int .u8 0, .int .u8 0, .int .u8 0, .int .u8 0] 36)).cell? ⟨w.heap.size, 0, none⟩ = some (.bool false) := cell_heap hS.heap rfl
  have d5 : (w.alloc (.cells #[.bool false, .int .u8 p, .int .u8 q, .int .u8 r, .int .u8 s, .int .u8 0, .int .u8 0, .int .u8 0, .int .u8 0, .int .u8 0, .int .u8 0, .int .u8 0, .int .u8 0, .int .u8 0, .int .u8 0, .int .u8 0, .int .u8 0] 36)).cell? ⟨w.heap.size, 5, none⟩ = some (.int .u8 0) := cell_heap hS.heap rfl
  have d6 : (w.alloc (.cells #[.bool false, .int .u8 p, .int .u8 q, .int .u8 r, .int .u8 s, .int .u8 0, .int .u8 0, .int .u8 0, .int .u8 0, .int .u8 0, .int .u8 0, .int .u8 0, .int .u8 0, .int .u8 0, .int .u8 0, .int .u8 0, .int .u8 0] 36)).cell? ⟨w.heap.size, 6, none⟩ = some (.int .u8 0) := cell_heap hS.heap rfl
  have d7 : (w.alloc (.cells #[.bool false, .int .u8 p, .int .u8 q, .int .u8 r, .int .u8 s, .int .u8 0, .int .u8 0, .int .u8 0, .int .u8 0, .int .u8 0, .int .u8 0, .int .u8 0, .int .u8 0, .int .u8 0, .int .u8 0, .int .u8 0, .int .u8 0] 36)).cell? ⟨w.heap.size, 7, none⟩ = some (.int .u8 0) := cell_heap hS.heap rfl
  have d8 : (w.alloc (.cells #[.bool false, .int .u8 p, .int .u8 q, .int .u8 r, .int .u8 s, .int .u8 0, .int .u8 0, .int .u8 0, .int .u8 0, .int .u8 0, .int .u8 0, .int .u8 0, .int .u8 0, .int .u8 0, .int .u8 0, .int .u8 0, .int .u8 0] 36)).cell? ⟨w.heap.size, 8, none⟩ = some (.int .u8 0) := cell_heap hS.heap rfl
  have d9 : (w.alloc (.cells #[.bool false, .int .u8 p, .int .u8 q, .int .u8 r, .int .u8 s, .int .u8 0, .int .u8 0, .int .u8 0, .int .u8 0, .int .u8 0, .int .u8 0, .int .u8 0, .int .u8 0, .int .u8 0, .int .u8 0, .int .u8 0, .int .u8 0] 36)).cell? ⟨w.heap.size, 9, none⟩ = some (.int .u8 0) := cell_heap hS.heap rfl
  have d10 : (w.alloc (.cells #[.bool false, .int .u8 p, .int .u8 q, .int .u8 r, .int .u8 s, .int .u8 0, .int .u8 0, .int .u8 0, .int .u8 0, .int .u8 0, .int .u8 0, .int .u8 0, .int .u8 0, .int .u8 0, .int .u8 0, .int .u8 0, .int .u8 0] 36)).cell? ⟨w.heap.size, 10, none⟩ = some (.int .u8 0) := cell_heap hS.heap rfl
  have d11 : (w.alloc (.cells #[.bool false, .int .u8 p, .int .u8 q, .int .u8 r, .int .u8 s, .int .u8 0, .int .u8 0, .int .u8 0, .int .u8 0, .int .u8 0, .int .u8 0, .int .u8 0, .int .u8 0, .int .u8 0, .int .u8 0, .int .u8 0, .int .u8 0] 36)).cell? ⟨w.heap.size, 11, none⟩ = some (.int .u8 0) := cell_heap hS.heap rfl
  have d12 : (w.alloc (.cells #[.bool false, .int .u8 p, .int .u8 q, .int .u8 r, .int .u8 s, .int .u8 0, .int .u8 0, .int .u8 0, .int .u8 0, .int .u8 0, .int .u8 0, .int .u8 0, .int .u8 0, .int .u8 0, .int .u8 0, .int .u8 0, .int .u8 0] 36)).cell? ⟨w.heap.size, 12, none⟩ = some (.int .u8 0) := cell_heap hS.heap rfl
  have d13 : (w.alloc (.cells #[.bool false, .int .u8 p, .int .u8 q, .int .u8 r, .int .u8 s, .int .u8 0, .int .u8 0, .int .u8 0, .int .u8 0, .int .u8 0, .int .u8 0, .int .u8 0, .int .u8 0, .int .u8 0, .int .u8 0, .int .u8 0, .int .u8 0] 36)).cell? ⟨w.heap.size, 13, none⟩ = some (.int .u8 0) := cell_heap hS.heap rfl
  have d14 : (w.alloc (.cells #[.bool false, .int .u8 p, .int .u8 q, .int .u8 r, .int .u8 s, .int .u8 0, .int .u8 0, .int .u8 0, .int .u8 0, .int .u8 0, .int .u8 0, .int .u8 0, .int .u8 0, .int .u8 0, .int .u8 0, .int .u8 0, .int .u8 0] 36)).cell? ⟨w.heap.size, 14, none⟩ = some (.int .u8 0) := cell_heap hS.heap rfl
  have d15 : (w.alloc (.cells #[.bool false, .int .u8 p, .int .u8 q, .int .u8 r, .int .u8 s, .int .u8 0, .int .u8 0, .int .u8 0, .int .u8 0, .int .u8 0, .int .u8 0, .int .u8 0, .int .u8 0, .int .u8 0, .int .u8 0, .int .u8 0, .int .u8 0] 36)).cell? ⟨w.heap.size, 15, none⟩ = some (.int .u8 0) := cell_heap hS.heap rfl
  have d16 : (w.alloc (.cells #[.bool false, .int .u8 p, .int .u8 q, .int .u8 r, .int .u8 s, .int .u8 0, .int .u8 0, .int .u8 0, .int .u8 0, .int .u8 0, .int .u8 0, .int .u8 0, .int .u8 0, .int .u8 0, .int .u8 0, .int .u8 0, .int .u8 0] 36)).cell? ⟨w.heap.size, 16, none⟩ = some (.int .u8 0) := cell_heap hS.heap rfl
  generalize hW : w.alloc (.cells #[.bool false, .int .u8 p, .int .u8 q, .int .u8 r, .int .u8 s, .int .u8 0, .int .u8 0, .int .u8 0, .int .u8 0, .int .u8 0, .int .u8 0, .int .u8 0, .int .u8 0, .int .u8 0, .int .u8 0, .int .u8 0, .int .u8 0] 36) = W1 at *
  clear hS
  go_enter Tryz.func79, Tryz.ntmps79
  go_wp2_with fail
  refine wp_loop_rounds 13 ?_
  rw [rounds_succ]
  go_wp2_with fail
  rw [rounds_succ]
  go_wp2_with fail
  rw [rounds_succ]
  go_wp2_with fail
  rw [rounds_succ]
  go_wp2_with fail
  rw [rounds_succ]
  go_wp2_with fail
  rw [rounds_succ]
  go_wp2_with fail
  rw [rounds_succ]
  go_wp2_with fail
  rw [rounds_succ]
  go_wp2_with fail
  rw [rounds_succ]
  go_wp2_with fail
  rw [rounds_succ]
  go_wp2_with fail
  rw [rounds_succ]
  go_wp2_with fail
  rw [rounds_succ]
  go_wp2_with fail
  rw [rounds_succ]
  go_wp2_with fail
  go_ret
  exact ⟨rfl, hB⟩
/-- The bytes of the packet from port p to port 6. -/
def ip4H : List Int := [69, 0, 0, 28, 0, 0, 0, 0, 64, 17, 110, 207, 1, 1, 1, 1, 10, 0, 0, 1]
def ip4B (p : Int) : List Int := ip4H ++ dgrB p
attribute [local irreducible] wpOrd
set_option maxRecDepth 8000 in
set_option maxHeartbeats 8000000 in
theorem bip4_any {B : Nat} {w0 w : World} {F : HP} {vb : Value} (p : Int) (h : Sat B w0 w (byt vb (dgrB p) • F)) :
    Calls Tryz.prog 40 #[.agg adA, .agg adB, .int .i64 17, .slice none 0 0, vb] w fun e w' => ∃ v', e = .returned (.tuple #[v', .agg failZ]) ∧ Sat B w0 w' (byt v' (ip4B p) • F) := by
  obtain ⟨Ab, cb, rfl⟩ := h.bytForm
  have hlen : (dgrB p).length = 8 := rfl
  rw [hlen] at *
  have hS3 := ((h.alloc (.cells adA 36)).alloc (.cells adB 36)).alloc (.cells failZ 75)
  simp only [World.size_alloc] at hS3
  have hSA : adA.size = 17 := rfl
  have hSB : adB.size = 17 := rfl
  have hld : ∀ (W : World) (b : Nat) (S : Array Value), S.size = 17 → W.heap[b]? = some (.cells S 36) → (Instr.loadAt 36 (.pointer (some ⟨b, 0, none⟩))).run Tryz.prog W = .ok (.agg S) W := fun W b S hS hW =>
    run_loadAt_row (cs := S.toList) hW Tryz.underlying36 rfl (by rw [Array.length_toList, hS]; kernel_rfl) (fun j u hu => by simpa using hu)
  have cA : ∀ W, Calls Tryz.prog 79 #[.agg adA] W fun e w' => e = .returned (.bool true) ∧ Below W.heap.size W w' := fun W => refRight_4 1 1 1 1 W
  have cB : ∀ W, Calls Tryz.prog 79 #[.agg adB] W fun e w' => e = .returned (.bool true) ∧ Below W.heap.size W w' := fun W => refRight_4 10 0 0 1 W
  have hl1 := hld _ _ _ hSA hS3.pull3.heap
  have hFZ : failZ = #[.int .i64 0, .int .i64 0, .bool false] := rfl
  have hA0 : adA[0]? = some (.bool false) := rfl
  have hB0 : adB[0]? = some (.bool false) := rfl
  have rdA : ∀ W G, Sat B w0 W (blk w.heap.size (.cells adA 36) • G) → Reads W (.slice (some ⟨w.heap.size, 1, none⟩) 4 16) 4 (byv [1, 1, 1, 1]) := fun W G hG => .inr ⟨_, _, rfl, fun j u hu => by
    rw [Addr.add_lit]
    refine cell_heap hG.heap ?_
    match j, hu with
    | 0, hu => exact hu
    | 1, hu => exact hu
    | 2, hu => exact hu
    | 3, hu => exact hu
    | (j + 4), hu => simp [byv] at hu⟩
  have rdB : ∀ W G, Sat B w0 W (blk (w.heap.size + 1) (.cells adB 36) • G) → Reads W (.slice (some ⟨w.heap.size + 1, 1, none⟩) 4 16) 4 (byv [10, 0, 0, 1]) := fun W G hG => .inr ⟨_, _, rfl, fun j u hu => by
    rw [Addr.add_lit]
    refine cell_heap hG.heap ?_
    match j, hu with
    | 0, hu => exact hu
    | 1, hu => exact hu
    | 2, hu => exact hu
    | 3, hu => exact hu
    | (j + 4), hu => simp [byv] at hu⟩
  generalize hq : w.heap.size = q at *
  generalize adA = SA at *
  generalize adB = SB at *
  rw [hFZ] at *
  generalize hW : ((w.alloc (.cells SA 36)).alloc (.cells SB 36)).alloc (.cells #[.int .i64 0, .int .i64 0, .bool false] 75) = W at *
  clear h
  go_enter Tryz.func40, Tryz.ntmps40
  go_wp2_with (refine wpList_load_run (t := 36) rfl rfl rfl hl1 (stop_ ?_))
  unfold Stop
  clear hl1
  go_wp2_with fail
  refine (cA _).mono ?_
  rintro e u1 ⟨rfl, hb1⟩
  have hU1 := hS3.below_ hb1
  have hl2 := hld _ _ _ hSB hU1.pull2.heap
  clear hS3 hb1 cA
  go_wp2_with (refine wpList_load_w rfl (t := 36) rfl rfl hl2 (stop_ ?_))
  unfold Stop
  clear hl2
  go_wp2_with fail
  refine (cB _).mono ?_
  rintro e u2 ⟨rfl, hb2⟩
  have hU2 := hU1.below_ hb2
  have d0 : u2.cell? ⟨q, 0, none⟩ = some (.bool false) := cell_heap hU2.pull3.heap hA0
  have d1 : u2.cell? ⟨q + 1, 0, none⟩ = some (.bool false) := cell_heap hU2.pull2.heap hB0
  clear hU1 hb2 cB
  have hZ3 := hU2.alloc (.cells (byv [69, 0]).toArray 5)
  have hZb : Sat B w0 _ (byt (.slice (some ⟨u2.heap.size, 0, none⟩) 2 2) [69, 0] • _) := Sat.arr_shut (by decide) (by decide) rfl rfl hZ3
  have c3 := put2_any 28 (by decide) (by decide) (by decide) hZb
  go_wp2_with fail
  refine c3.mono ?_
  rintro e u3 ⟨x3, rfl, hU3⟩
  have hV3 := hU3.pull2.drop
  clear c3 hZ3 hZb hU3 hU2 d0 d1
  have hY := hV3.alloc (.cells (byv [0, 0, 0, 0, 64, 17, 0, 0]).toArray 5)
  obtain ⟨x4, u4, hr4, hU4⟩ := hY.pull2.bytApp (b := [0, 0, 0, 0, 64, 17, 0, 0]) (reads_lit (n := 8) (c := 8) rfl) (by simp)
  have hX := hU4.pull2.drop
  clear hV3 hY hU4
  go_wp2_with (at_builtin; refine wpList_append_run rfl _ _ _ rfl rfl rfl hr4 (stop_ ?_))
  unfold Stop
  clear hr4
  go_wp2_with fail
  try go_frame
  obtain ⟨x5, u5, hr5, hS5⟩ := hX.drew.bytApp (b := [1, 1, 1, 1]) (rdA _ _ hX.drew.pull4) (by simp)
  obtain ⟨x6, u6, hr6, hS6⟩ := hS5.bytApp (b := [10, 0, 0, 1]) (rdB _ _ hS5.pull3) (by simp)
  obtain ⟨x7, u7, hr7, hS7⟩ := hS6.bytApp (b := []) (.inl ⟨0, rfl, rfl, rfl⟩) (by simp)
  refine wp_region_ord [(0, .pure), (1, .pure), (2, .pure), (4, .pure), (5, .pure), (7, .pure), (3, .acts), (6, .acts), (8, .acts), (9, .pure)] (by kernel_rfl) (by kernel_rfl)
    (fun w' => w'.heap[q + 2]? = some (.cells #[.int .i64 0, .int .i64 0, .bool false] 75)) hX.drew.pull2.heap ?_
  iterate 6 (refine ord_pure rfl rfl rfl (fun K' hK => ?_); go_big_quiet_op; refine hK _ ?_; clear hK K')
  refine ord_acts rfl rfl (fun K' hK => wp_append_run _ _ _ rfl rfl rfl hr5 (hK _ _ hS5.pull2.heap ?_))
  clear hK K'
  go_simp
  refine ord_acts rfl rfl (fun K' hK => wp_append_run _ _ _ rfl rfl rfl hr6 (hK _ _ hS6.pull2.heap ?_))
  clear hK K'
  go_simp
  refine ord_acts rfl rfl (fun K' hK => wp_append_run _ _ _ rfl rfl rfl hr7 (hK _ _ hS7.pull2.heap ?_))
  clear hK K'
  go_simp
  iterate 1 (refine ord_pure rfl rfl rfl (fun K' hK => ?_); go_big_quiet_op; refine hK _ ?_; clear hK K')
  refine ord_nil ?_
  have hbs : (((((([69, 0] ++ [28 / 256, 28 % 256]) ++ [0, 0, 0, 0, 64, 17, 0, 0]) ++ [1, 1, 1, 1]) ++ [10, 0, 0, 1]) ++ [] : List Int)) = [69, 0, 0, 28, 0, 0, 0, 0, 64, 17, 0, 0, 1, 1, 1, 1, 10, 0, 0, 1] := rfl
  rw [hbs] at hS7
  have c7 := rsum_any (by
      intro x hx
      simp only [List.mem_cons, List.not_mem_nil, or_false] at hx
      rcases hx with rfl | rfl | rfl | rfl | rfl | rfl | rfl | rfl | rfl | rfl | rfl | rfl | rfl | rfl | rfl | rfl | rfl | rfl | rfl | rfl <;> decide) 10 rfl (by decide) (by decide) hS7 (by decide)
  rw [show (65535 - wsum [69, 0, 0, 28, 0, 0, 0, 0, 64, 17, 0, 0, 1, 1, 1, 1, 10, 0, 0, 1] : Int) = 28367 by decide] at c7
  clear hr5 hr6 hr7 hS5 hS6 hX rdA rdB hbs
  go_wp2_with fail
  refine c7.mono ?_
  rintro e u8 ⟨rfl, rfl⟩
  have c8 := set_any 10 28367 (by decide) (by decide) (by simp) (by simp) hS7
  clear c7
  go_wp2_with fail
  refine c8.mono ?_
  rintro e u9 ⟨x9, rfl, hU9⟩
  have hV9 := hU9.pull2.drop
  clear c8 hU9 hS7
  obtain ⟨xa, ua, hra, hUa⟩ := hV9.bytApp (b := dgrB p) (by have := hV9.drop.drop.drop.drop.bytReads; exact this) (by simp [setB, dgrB])
  have hW8 := hUa.pull2
  have hst := run_storeAt_row (P := Tryz.prog) (o := 0) (ty := 75) (v := .agg #[.int .i64 0, .int .i64 0, .bool false]) hW8.heap (by kernel_rfl) (by simp [Value.cells]) (by simp [Value.cells, Value.oneCell'])
  have hW9 := hW8.setRow (cs := #[.int .i64 0, .int .i64 0, .bool false])
  simp only [Value.cells] at hst
  rw [show splice (#[.int .i64 0, .int .i64 0, .bool false] : Array Value) 0 (#[.int .i64 0, .int .i64 0, .bool false] : Array Value).toList = #[.int .i64 0, .int .i64 0, .bool false] by rfl] at hst
  have hl9 : (Instr.loadAt 75 (.pointer (some ⟨q + 2, 0, none⟩))).run Tryz.prog (ua.setRow (q + 2) #[.int .i64 0, .int .i64 0, .bool false]) = .ok (.agg #[.int .i64 0, .int .i64 0, .bool false]) (ua.setRow (q + 2) #[.int .i64 0, .int .i64 0, .bool false]) :=
    run_loadAt_row (cs := [.int .i64 0, .int .i64 0, .bool false]) hW9.heap Tryz.underlying75 rfl (by kernel_rfl) (fun j u hu => by simpa using hu)
  have hfin : Sat B w0 (ua.setRow (q + 2) #[.int .i64 0, .int .i64 0, .bool false]) (byt xa (ip4B p) • F) := (hW9.drop.pull2.drop).pull2.drop.pull2.drop
  have HF := Lib.hid hfin
  clear hW8 hW9 hfin hUa hV9
  go_wp2_with (first | (at_builtin; refine wpList_append_run rfl _ _ _ rfl rfl rfl hra (stop_ ?_)))
  unfold Stop
  clear hra
  go_wp2_with (refine wpList_store_run (t := 75) rfl rfl rfl rfl hst (stop_ ?_))
  unfold Stop
  go_wp2_with fail
  refine ret_tmp_cell rfl rfl rfl hl9 rfl ⟨xa, rfl, HF.out⟩
end Go.Proofs.YtdcekoocnoackaaGreatDoor

/-! The reference's BuildEther. -/
namespace Go.Proofs.YtdcekoocnoackaaGreatDoor
open Go Go.RowKit

/-- The bytes of the frame from port p to port 6. -/
def ethB (p : Int) : List Int := [0, 0, 0, 0, 0, 0, 0, 0, 0, 0, 0, 0, 8, 0] ++ ip4B p
attribute [local irreducible] wpOrd
set_option maxRecDepth 8000 in
set_option maxHeartbeats 4000000 in
theorem bet_any {B : Nat} {w0 w : World} {F : HP} {vb : Value} (p : Int) (h : Sat B w0 w (byt vb (ip4B p) • F)) :
    Calls Tryz.prog 41 #[.int .i64 2048, .slice none 0 0, vb] w fun e w' => ∃ v', e = .returned (.tuple #[v', .agg failZ]) ∧ Sat B w0 w' (byt v' (ethB p) • F) := by
  obtain ⟨Ab, cb, rfl⟩ := h.bytForm
  have hlen : (ip4B p).length = 28 := rfl
  rw [hlen] at *
  have hS1 := h.alloc (.cells failZ 75)
  have hFZ : failZ = #[.int .i64 0, .int .i64 0, .bool false] := rfl
  generalize hq : w.heap.size = q at *
  rw [hFZ] at *
  have hmk : ∀ W : World, (Instr.makeSlice 32 (.int .i64 12) (.int .i64 12)).run Tryz.prog W = .ok (.slice (some ⟨W.heap.size, 0, none⟩) 12 12) (W.alloc (.cells (byv [0, 0, 0, 0, 0, 0, 0, 0, 0, 0, 0, 0]).toArray 5)) := fun W => by kernel_rfl
  generalize hW : w.alloc (.cells #[.int .i64 0, .int .i64 0, .bool false] 75) = W at *
  clear h
  go_enter Tryz.func41, Tryz.ntmps41
  go_wp2_with fail
  refine wp_loop_rounds 1 ?_
  rw [rounds_succ]
  go_wp2_with fail
  have hZ3 := hS1.alloc (.cells (byv [0, 0, 0, 0, 0, 0, 0, 0, 0, 0, 0, 0]).toArray 5)
  have hZb : Sat B w0 _ (byt (.slice (some ⟨W.heap.size, 0, none⟩) 12 12) [0, 0, 0, 0, 0, 0, 0, 0, 0, 0, 0, 0] • _) := Sat.arr_shut (by decide) (by decide) rfl rfl hZ3
  have c3 := put2_any 2048 (by decide) (by decide) (by decide) hZb
  refine c3.mono ?_
  rintro e u3 ⟨x3, rfl, hU3⟩
  have hV9 := hU3.pull2.drop
  clear c3 hZ3 hZb hU3 hS1 hmk
  obtain ⟨xa, ua, hra, hUa⟩ := hV9.bytApp (b := ip4B p) (by have := hV9.drop.drop.bytReads; exact this) (by simp [ip4B, ip4H, dgrB])
  have hW8 := hUa.pull2
  have hst := run_storeAt_row (P := Tryz.prog) (o := 0) (ty := 75) (v := .agg #[.int .i64 0, .int .i64 0, .bool false]) hW8.heap (by kernel_rfl) (by simp [Value.cells]) (by simp [Value.cells, Value.oneCell'])
  have hW9 := hW8.setRow (cs := #[.int .i64 0, .int .i64 0, .bool false])
  simp only [Value.cells] at hst
  rw [show splice (#[.int .i64 0, .int .i64 0, .bool false] : Array Value) 0 (#[.int .i64 0, .int .i64 0, .bool false] : Array Value).toList = #[.int .i64 0, .int .i64 0, .bool false] by rfl] at hst
  have hl9 : (Instr.loadAt 75 (.pointer (some ⟨q, 0, none⟩))).run Tryz.prog (ua.setRow q #[.int .i64 0, .int .i64 0, .bool false]) = .ok (.agg #[.int .i64 0, .int .i64 0, .bool false]) (ua.setRow q #[.int .i64 0, .int .i64 0, .bool false]) :=
    run_loadAt_row (cs := [.int .i64 0, .int .i64 0, .bool false]) hW9.heap Tryz.underlying75 rfl (by kernel_rfl) (fun j u hu => by simpa using hu)
  have hfin : Sat B w0 (ua.setRow q #[.int .i64 0, .int .i64 0, .bool false]) (byt xa (ethB p) • F) := (hW9.drop.pull2.drop)
  have HF := Lib.hid hfin
  clear hW8 hW9 hfin hUa hV9
  go_wp2_with (first | (at_builtin; refine wpList_append_run rfl _ _ _ rfl rfl rfl hra (stop_ ?_)))
  unfold Stop
  clear hra
  go_wp2_with (refine wpList_store_run (t := 75) rfl rfl rfl rfl hst (stop_ ?_))
  unfold Stop
  go_wp2_with fail
  refine ret_tmp_cell rfl rfl rfl hl9 rfl ⟨xa, rfl, HF.out⟩
end Go.Proofs.YtdcekoocnoackaaGreatDoor

/-! The reference's BuildPacket; Frame, V4. -/
namespace Go.Proofs.YtdcekoocnoackaaGreatDoor
open Go Go.RowKit

/-- The way from 1.1.1.1, port p, to 10.0.0.1, port 6; and a packet on it. -/
def tuC (p : Int) : List Value := [.bool false, .int .u8 1, .int .u8 1, .int .u8 1, .int .u8 1, .int .u8 0, .int .u8 0, .int .u8 0, .int .u8 0, .int .u8 0, .int .u8 0, .int .u8 0, .int .u8 0, .int .u8 0, .int .u8 0, .int .u8 0, .int .u8 0, .bool false, .int .u8 10, .int .u8 0, .int .u8 0, .int .u8 1, .int .u8 0, .int .u8 0, .int .u8 0, .int .u8 0, .int .u8 0, .int .u8 0, .int .u8 0, .int .u8 0, .int .u8 0, .int .u8 0, .int .u8 0, .int .u8 0, .int .i64 17, .int .i64 p, .int .i64 6]
def pkC (p : Int) : List Value := [.bool false, .int .u8 1, .int .u8 1, .int .u8 1, .int .u8 1, .int .u8 0, .int .u8 0, .int .u8 0, .int .u8 0, .int .u8 0, .int .u8 0, .int .u8 0, .int .u8 0, .int .u8 0, .int .u8 0, .int .u8 0, .int .u8 0, .bool false, .int .u8 10, .int .u8 0, .int .u8 0, .int .u8 1, .int .u8 0, .int .u8 0, .int .u8 0, .int .u8 0, .int .u8 0, .int .u8 0, .int .u8 0, .int .u8 0, .int .u8 0, .int .u8 0, .int .u8 0, .int .u8 0, .int .i64 17, .int .i64 p, .int .i64 6, .int .i64 0, .int .u32 0, .int .u32 0, .int .i64 0, .int .i64 0, .bool false, .int .u8 0, .int .u8 0, .int .u8 0, .int .u8 0, .int .u8 0, .int .u8 0, .int .u8 0, .int .u8 0, .int .u8 0, .int .u8 0, .int .u8 0, .int .u8 0, .int .u8 0, .int .u8 0, .int .u8 0, .int .u8 0, .bool false, .int .u8 0, .int .u8 0, .int .u8 0, .int .u8 0, .int .u8 0, .int .u8 0, .int .u8 0, .int .u8 0, .int .u8 0, .int .u8 0, .int .u8 0, .int .u8 0, .int .u8 0, .int .u8 0, .int .u8 0, .int .u8 0, .int .i64 0, .int .i64 0, .int .i64 0, .slice none 0 0]
theorem pkC_len (p : Int) : (pkC p).length = 80 := rfl
theorem tuC_len (p : Int) : (tuC p).length = 37 := rfl
theorem tuC_one (p : Int) : ∀ u ∈ tuC p, u.oneCell' = true := by
  intro u hu
  simp only [tuC, List.mem_cons, List.not_mem_nil, or_false] at hu
  rcases hu with rfl | rfl | rfl | rfl | rfl | rfl | rfl | rfl | rfl | rfl | rfl | rfl | rfl | rfl | rfl | rfl | rfl | rfl | rfl | rfl | rfl | rfl | rfl | rfl | rfl | rfl | rfl | rfl | rfl | rfl | rfl | rfl | rfl | rfl | rfl | rfl | rfl <;> rfl
theorem pk_tu (p : Int) (j : Nat) (u : Value) (h : (tuC p)[j]? = some u) : (pkC p).toArray[j]? = some u := by
  rw [show pkC p = tuC p ++ [.int .i64 0, .int .u32 0, .int .u32 0, .int .i64 0, .int .i64 0, .bool false, .int .u8 0, .int .u8 0, .int .u8 0, .int .u8 0, .int .u8 0, .int .u8 0, .int .u8 0, .int .u8 0, .int .u8 0, .int .u8 0, .int .u8 0, .int .u8 0, .int .u8 0, .int .u8 0, .int .u8 0, .int .u8 0, .bool false, .int .u8 0, .int .u8 0, .int .u8 0, .int .u8 0, .int .u8 0, .int .u8 0, .int .u8 0, .int .u8 0, .int .u8 0, .int .u8 0, .int .u8 0, .int .u8 0, .int .u8 0, .int .u8 0, .int .u8 0, .int .u8 0, .int .i64 0, .int .i64 0, .int .i64 0, .slice none 0 0] from rfl]
  rw [List.getElem?_toArray, List.getElem?_append_left (List.getElem?_eq_some_iff.1 h).1]; exact h
theorem tu_A (p : Int) (j : Nat) (u : Value) (h : adA.toList[j]? = some u) : (tuC p).toArray[0 + j]? = some u := by
  rw [Nat.zero_add, show tuC p = adA.toList ++ (adB.toList ++ [.int .i64 17, .int .i64 p, .int .i64 6]) from rfl, List.getElem?_toArray, List.getElem?_append_left (List.getElem?_eq_some_iff.1 h).1]; exact h
theorem tu_B (p : Int) (j : Nat) (u : Value) (h : adB.toList[j]? = some u) : (tuC p).toArray[17 + j]? = some u := by
  rw [show tuC p = adA.toList ++ (adB.toList ++ [.int .i64 17, .int .i64 p, .int .i64 6]) from rfl, List.getElem?_toArray, List.getElem?_append_right (by simp [adA]), show 17 + j - adA.toList.length = j by simp [adA], List.getElem?_append_left (List.getElem?_eq_some_iff.1 h).1]; exact h
set_option maxRecDepth 8000 in
set_option maxHeartbeats 8000000 in
theorem bpk_any {B : Nat} {w0 w : World} {F : HP} (p : Int) (h1 : 0 ≤ p) (h2 : p ≤ 1000) (h : Sat B w0 w F) :
    Calls Tryz.prog 20 #[.agg (pkC p).toArray] w fun e w' => ∃ v', e = .returned (.tuple #[v', .agg failZ]) ∧ Sat B w0 w' (byt v' (ethB p) • F) := by
  have hFZ : failZ = #[.int .i64 0, .int .i64 0, .bool false] := rfl
  rw [hFZ]
  have hS1 := h.alloc (.cells (pkC p).toArray 44)
  have hS2 := hS1.alloc (.cells #[.int .i64 0, .int .i64 0, .bool false] 75)
  rw [World.size_alloc] at hS2
  have hl : (Instr.loadAt 39 (.pointer (some ⟨w.heap.size, 0, none⟩))).run Tryz.prog ((w.alloc (.cells (pkC p).toArray 44)).alloc (.cells #[.int .i64 0, .int .i64 0, .bool false] 75)) = .ok (.agg (tuC p).toArray) ((w.alloc (.cells (pkC p).toArray 44)).alloc (.cells #[.int .i64 0, .int .i64 0, .bool false] 75)) :=
    run_loadAt_row (cs := tuC p) hS2.pull2.heap Tryz.underlying39 rfl (by rw [tuC_len]; kernel_rfl) (fun j u hu => by rw [Nat.zero_add]; exact pk_tu p j u hu)
  have hst : ∀ W : World, ∀ z : Array Value, z.size = 37 → (Instr.storeAt 39 (.pointer (some ⟨W.heap.size, 0, none⟩)) (.agg (tuC p).toArray)).run Tryz.prog (W.alloc (.cells z 39)) = .ok () (W.alloc (.cells (tuC p).toArray 39)) :=
    fun W z hz => run_storeAt_new (v := .agg (tuC p).toArray) (by kernel_rfl) (by rw [hz]; rfl) (by simpa [Value.cells] using tuC_one p)
  generalize hq : w.heap.size = q at *
  generalize hW : (w.alloc (.cells (pkC p).toArray 44)).alloc (.cells #[.int .i64 0, .int .i64 0, .bool false] 75) = W at *
  have hS3 := hS2.alloc (.cells (tuC p).toArray 39)
  have hstW := hst W
  have hfacts : ∀ (b : Nat) (V : World) (G : HP), Sat B w0 V (blk b (.cells (tuC p).toArray 39) • G) → V.cell? ⟨b, 0, none⟩ = some (.bool false) ∧ V.cell? ⟨b, 34, none⟩ = some (.int .i64 17) ∧ V.cell? ⟨b, 35, none⟩ = some (.int .i64 p) ∧ V.cell? ⟨b, 36, none⟩ = some (.int .i64 6) ∧ (Instr.loadAt 36 (.pointer (some ⟨b, 0, none⟩))).run Tryz.prog V = .ok (.agg adA) V ∧ (Instr.loadAt 36 (.pointer (some ⟨b, 17, none⟩))).run Tryz.prog V = .ok (.agg adB) V := fun b V G hG =>
    ⟨cell_heap hG.heap rfl, cell_heap hG.heap rfl, cell_heap hG.heap rfl, cell_heap hG.heap rfl, run_loadAt_row (cs := adA.toList) hG.heap Tryz.underlying36 rfl (by kernel_rfl) (fun j u hu => tu_A p j u hu), run_loadAt_row (cs := adB.toList) hG.heap Tryz.underlying36 rfl (by kernel_rfl) (fun j u hu => tu_B p j u hu)⟩
  have hpay : ∀ (V : World) (G : HP), Sat B w0 V (blk q (.cells (pkC p).toArray 44) • G) → V.cell? ⟨q, 79, none⟩ = some (.slice none 0 0) := fun V G hG => cell_heap hG.heap rfl
  generalize hPK : (pkC p).toArray = PK at *
  generalize hTU : (tuC p).toArray = TU at *
  clear hst h hS1 hS2
  go_enter Tryz.func20, Tryz.ntmps20
  go_wp2_with (first | (refine wpList_load_run (t := 39) rfl rfl rfl hl ?_) | (refine wpList_store_run (t := 39) rfl rfl rfl rfl (hstW _ rfl) (stop_ ?_)))
  unfold Stop
  clear hl hstW
  go_wp2_with fail
  refine (bare_any 1 _).mono ?_
  rintro e u1 ⟨rfl, hb1⟩
  have hU1 := hS3.below_ hb1
  unfold failV
  generalize htb : W.heap.size = tb at *
  clear hS3 hb1
  have hU2 := hU1.alloc (.cells #[.int .i64 1, .int .i64 0, .bool false] 75)
  obtain ⟨d0, d34, d35, d36, hA, hB⟩ := hfacts tb _ _ hU2.pull2
  have dp := hpay _ _ hU2.pull4
  have c2 := budp_any p h1 h2 hU2
  clear hU1
  generalize hrb : u1.heap.size = rb at *
  go_wp2_with (first | (refine wpList_load_run (t := 36) rfl rfl rfl hA ?_) | (refine wpList_load_run (t := 36) rfl rfl rfl hB ?_))
  refine c2.mono ?_
  rintro e u3 ⟨v3, rfl, hU3⟩
  clear c2 d0 d34 d35 d36 hA hB dp hU2
  rw [hFZ]
  have hR3 := hU3.pull2
  have hst3 := run_storeAt_row (P := Tryz.prog) (o := 0) (ty := 75) (v := .agg #[.int .i64 0, .int .i64 0, .bool false]) hR3.heap (by kernel_rfl) (by simp [Value.cells]) (by simp [Value.cells, Value.oneCell'])
  have hR4 := hR3.setRow (cs := #[.int .i64 0, .int .i64 0, .bool false])
  simp only [Value.cells] at hst3
  rw [show splice (#[.int .i64 1, .int .i64 0, .bool false] : Array Value) 0 (#[.int .i64 0, .int .i64 0, .bool false] : Array Value).toList = #[.int .i64 0, .int .i64 0, .bool false] by rfl] at hst3
  generalize hu4 : u3.setRow rb #[.int .i64 0, .int .i64 0, .bool false] = u4 at *
  clear hU3 hR3
  obtain ⟨d0, d34, d35, d36, hA, hB⟩ := hfacts tb _ _ hR4.pull3
  have dz : u4.cell? ⟨rb, 0, none⟩ = some (.int .i64 0) := cell_heap hR4.heap rfl
  have c4 := bip4_any p hR4.pull2
  go_wp2_with (refine wpList_store_run (t := 75) rfl rfl rfl rfl hst3 (stop_ ?_))
  unfold Stop
  clear hst3 d35 d36 hu4
  go_wp2_with (first | (refine wpList_load_run (t := 36) rfl rfl rfl hA ?_) | (refine wpList_load_run (t := 36) rfl rfl rfl hB ?_))
  refine c4.mono ?_
  rintro e u5 ⟨v5, rfl, hU5⟩
  clear c4 d0 d34 dz hA hB hR4
  rw [hFZ]
  have hR5 := hU5.pull2
  have hst5 := run_storeAt_row (P := Tryz.prog) (o := 0) (ty := 75) (v := .agg #[.int .i64 0, .int .i64 0, .bool false]) hR5.heap (by kernel_rfl) (by simp [Value.cells]) (by simp [Value.cells, Value.oneCell'])
  have hR6 := hR5.setRow (cs := #[.int .i64 0, .int .i64 0, .bool false])
  simp only [Value.cells] at hst5
  rw [show splice (#[.int .i64 0, .int .i64 0, .bool false] : Array Value) 0 (#[.int .i64 0, .int .i64 0, .bool false] : Array Value).toList = #[.int .i64 0, .int .i64 0, .bool false] by rfl] at hst5
  generalize hu6 : u5.setRow rb #[.int .i64 0, .int .i64 0, .bool false] = u6 at *
  clear hU5 hR5
  have dz : u6.cell? ⟨rb, 0, none⟩ = some (.int .i64 0) := cell_heap hR6.heap rfl
  have c6 := bet_any p hR6.pull2
  go_wp2_with (refine wpList_store_run (t := 75) rfl rfl rfl rfl hst5 (stop_ ?_))
  unfold Stop
  clear hst5 hu6
  go_wp2_with fail
  refine c6.mono ?_
  rintro e u7 ⟨v7, rfl, hU7⟩
  clear c6 dz hR6
  rw [hFZ]
  have hR7 := (hU7.to (by ac_rfl : _ = blk (q + 1) (.cells #[.int .i64 0, .int .i64 0, .bool false] 75) • (blk rb (.cells #[.int .i64 0, .int .i64 0, .bool false] 75) • blk tb (.cells TU 39) • blk q (.cells PK 44) • (byt v7 (ethB p) • F))))
  have hst7 := run_storeAt_row (P := Tryz.prog) (o := 0) (ty := 75) (v := .agg #[.int .i64 0, .int .i64 0, .bool false]) hR7.heap (by kernel_rfl) (by simp [Value.cells]) (by simp [Value.cells, Value.oneCell'])
  have hR8 := hR7.setRow (cs := #[.int .i64 0, .int .i64 0, .bool false])
  simp only [Value.cells] at hst7
  rw [show splice (#[.int .i64 0, .int .i64 0, .bool false] : Array Value) 0 (#[.int .i64 0, .int .i64 0, .bool false] : Array Value).toList = #[.int .i64 0, .int .i64 0, .bool false] by rfl] at hst7
  have hl9 : (Instr.loadAt 75 (.pointer (some ⟨q + 1, 0, none⟩))).run Tryz.prog (u7.setRow (q + 1) #[.int .i64 0, .int .i64 0, .bool false]) = .ok (.agg #[.int .i64 0, .int .i64 0, .bool false]) (u7.setRow (q + 1) #[.int .i64 0, .int .i64 0, .bool false]) :=
    run_loadAt_row (cs := [.int .i64 0, .int .i64 0, .bool false]) hR8.heap Tryz.underlying75 rfl (by kernel_rfl) (fun j u hu => by simpa using hu)
  have HF := Lib.hid hR8.drop.drop.drop.drop
  clear hU7 hR7 hR8
  go_wp2_with (refine wpList_store_run (t := 75) rfl rfl rfl rfl hst7 (stop_ ?_))
  unfold Stop
  go_wp2_with fail
  refine ret_tmp_cell rfl rfl rfl hl9 rfl ⟨v7, rfl, HF.out⟩
set_option maxRecDepth 8000 in
set_option maxHeartbeats 2000000 in
theorem frame_any {B : Nat} {w0 w : World} {F : HP} (p : Int) (h1 : 0 ≤ p) (h2 : p ≤ 1000) (h : Sat B w0 w F) :
    Calls Tryz.prog 8 #[.agg (pkC p).toArray] w fun e w' => ∃ v', e = .returned v' ∧ Sat B w0 w' (byt v' (ethB p) • F) := by
  have hS1 := h.alloc (.cells (pkC p).toArray 44)
  have hl : (Instr.loadAt 44 (.pointer (some ⟨w.heap.size, 0, none⟩))).run Tryz.prog (w.alloc (.cells (pkC p).toArray 44)) = .ok (.agg (pkC p).toArray) (w.alloc (.cells (pkC p).toArray 44)) :=
    run_loadAt_row (cs := pkC p) hS1.heap Tryz.underlying44 rfl (by rw [pkC_len]; kernel_rfl) (fun j u hu => by simpa using hu)
  have c1 := bpk_any p h1 h2 hS1
  generalize (pkC p).toArray = PK at *
  have hFZ : failZ = #[.int .i64 0, .int .i64 0, .bool false] := rfl
  rw [hFZ] at c1
  clear h hS1
  go_enter Tryz.func8, Tryz.ntmps8
  go_wp2_with (refine wpList_load_run (t := 44) rfl rfl rfl hl (stop_ ?_))
  unfold Stop
  clear hl
  go_wp2_with fail
  refine c1.mono ?_
  rintro e u1 ⟨v1, rfl, hU1⟩
  have HF := Lib.hid ((hU1.pull2.drop).alloc_ (.cells #[.int .i64 0, .int .i64 0, .bool false] 75))
  clear c1 hU1
  go_wp2_with fail
  go_ret
  exact ⟨v1, rfl, HF.out⟩
end Go.Proofs.YtdcekoocnoackaaGreatDoor
