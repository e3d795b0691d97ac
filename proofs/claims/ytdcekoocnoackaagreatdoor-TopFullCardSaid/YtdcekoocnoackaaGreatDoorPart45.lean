import Derived.Test.YtdcekoocnoackaaGreatDoorPart41
import Derived.Test.YtdcekoocnoackaaGreatDoorPart44

/-! firewall.fresh. -/
namespace Go.Proofs.YtdcekoocnoackaaGreatDoor
open Go Go.RowKit

theorem pkP_tu (p : Int) (A : Option Addr) (d : Nat) (j : Nat) (u : Value) (h : (tuC p)[j]? = some u) : (pkP p A d).toArray[j]? = some u := by
  rw [show pkP p A d = tuC p ++ (pkP p A d).drop 37 from rfl, List.getElem?_toArray, List.getElem?_append_left (List.getElem?_eq_some_iff.1 h).1]; exact h
attribute [local irreducible] wpOrd
set_option maxRecDepth 8000 in
set_option maxHeartbeats 12000000 in
theorem fresh_full {B : Nat} {w0 w : World} {F : HP} {fw pol ck pd st fc fl room : Nat} {k next : Int} {R : List FIt} (p : Int) (A : Option Addr) (d : Nat) (hB : 0 < B) (hE : Et w0) (hnx : 0 ≤ next ∧ next ≤ 1000000000) (hk : k ≤ R.length) (h : Sat B w0 w (blk fw (fwB pol ck pd st fc fl k) • blk ck (.cells #[.int .u64 0] 105) • policyH pol • fltab fl room R next • F)) : Calls Tryz.prog 94 #[.pointer (some ⟨fw, 0, none⟩), .agg (pkP p A d).toArray, .agg #[.int .i64 0, .bool false, .int .i64 0, .int .i64 0, .int .i64 0, .slice none 0 0, .slice none 0 0, .slice none 0 0, .slice none 0 0], .bool false] w fun e w' => e = .returned (.agg #[.bool false, .int .i64 8]) ∧ Sat B w0 w' (blk fw (fwB pol ck pd st fc fl k) • blk ck (.cells #[.int .u64 0] 105) • policyH pol • fltab fl room R next • F) := by
  have hS1 := (((h.alloc (.cells (pkP p A d).toArray 44)).alloc (.cells #[.int .i64 0, .bool false, .int .i64 0, .int .i64 0, .int .i64 0, .slice none 0 0, .slice none 0 0, .slice none 0 0, .slice none 0 0] 219)).alloc (.cells #[.bool false, .int .i64 0] 47)).alloc (.cells (tuC p).toArray 39)
  simp only [World.size_alloc] at hS1
  have hlp : (Instr.loadAt 39 (.pointer (some ⟨w.heap.size, 0, none⟩))).run Tryz.prog (((w.alloc (.cells (pkP p A d).toArray 44)).alloc (.cells #[.int .i64 0, .bool false, .int .i64 0, .int .i64 0, .int .i64 0, .slice none 0 0, .slice none 0 0, .slice none 0 0, .slice none 0 0] 219)).alloc (.cells #[.bool false, .int .i64 0] 47)) = .ok (.agg (tuC p).toArray) (((w.alloc (.cells (pkP p A d).toArray 44)).alloc (.cells #[.int .i64 0, .bool false, .int .i64 0, .int .i64 0, .int .i64 0, .slice none 0 0, .slice none 0 0, .slice none 0 0, .slice none 0 0] 219)).alloc (.cells #[.bool false, .int .i64 0] 47)) := by
    have hS0 := ((h.alloc (.cells (pkP p A d).toArray 44)).alloc (.cells #[.int .i64 0, .bool false, .int .i64 0, .int .i64 0, .int .i64 0, .slice none 0 0, .slice none 0 0, .slice none 0 0, .slice none 0 0] 219)).alloc (.cells #[.bool false, .int .i64 0] 47)
    exact run_loadAt_row (cs := tuC p) hS0.pull3.heap Tryz.underlying39 rfl (by rw [tuC_len]; kernel_rfl) (fun j u hu => by rw [Nat.zero_add]; exact pkP_tu p A d j u hu)
  have hst : ∀ W : World, ∀ z : Array Value, z.size = 37 → (Instr.storeAt 39 (.pointer (some ⟨W.heap.size, 0, none⟩)) (.agg (tuC p).toArray)).run Tryz.prog (W.alloc (.cells z 39)) = .ok () (W.alloc (.cells (tuC p).toArray 39)) :=
    fun W z hz => run_storeAt_new (v := .agg (tuC p).toArray) (by kernel_rfl) (by rw [hz]; rfl) (by simpa [Value.cells] using tuC_one p)
  have d1 : (((((w.alloc (.cells (pkP p A d).toArray 44)).alloc (.cells #[.int .i64 0, .bool false, .int .i64 0, .int .i64 0, .int .i64 0, .slice none 0 0, .slice none 0 0, .slice none 0 0, .slice none 0 0] 219)).alloc (.cells #[.bool false, .int .i64 0] 47)).alloc (.cells (tuC p).toArray 39))).heap.size = w.heap.size + 1 + 1 + 1 + 1 := by simp only [World.size_alloc]
  clear d1
  have hTU : ∀ (b : Nat) (V : World), V.heap[b]? = some (.cells (tuC p).toArray 39) → (Instr.loadAt 39 (.pointer (some ⟨b, 0, none⟩))).run Tryz.prog V = .ok (.agg (tuC p).toArray) V ∧ V.cell? ⟨b, 34, none⟩ = some (.int .i64 17) := fun b V hV =>
    ⟨run_loadAt_row (cs := tuC p) hV Tryz.underlying39 rfl (by rw [tuC_len]; kernel_rfl) (fun j u hu => by simpa using hu), cell_heap hV rfl⟩
  have dpk : (pkP p A d).toArray[37]? = some (.int .i64 0) := rfl
  have cm := fun (W : World) (G : HP) (hW : Sat B w0 W (blk fw (.cells #[.pointer (some ⟨pol, 0, none⟩), .pointer (some ⟨ck, 0, none⟩), .pointer (some ⟨pd, 0, none⟩), .pointer (some ⟨st, 0, none⟩), .pointer (some ⟨fc, 0, none⟩), .pointer (some ⟨fl, 0, none⟩), .int .i64 1, .int .i64 1, .int .i64 1, .int .i64 k] 73) • policyH pol • G)) => fmay_any (B := B) (w0 := w0) (F := G) p hW
  have cb := fun (W : World) (G : HP) (hW : Sat B w0 W (fltab fl room R next • G)) => flBegin_any hW hB hE hnx (tuT p) 0 0 (by decide) (by decide)
  have cs := server_no fw p
  have hst0 := hst (((w.alloc (.cells (pkP p A d).toArray 44)).alloc (.cells #[.int .i64 0, .bool false, .int .i64 0, .int .i64 0, .int .i64 0, .slice none 0 0, .slice none 0 0, .slice none 0 0, .slice none 0 0] 219)).alloc (.cells #[.bool false, .int .i64 0] 47))
  rw [tuT_enc] at cb
  unfold fwB at *
  generalize (tuC p).toArray = TU at *
  generalize (pkP p A d).toArray = PK at *
  generalize hW : ((w.alloc (.cells PK 44)).alloc (.cells #[.int .i64 0, .bool false, .int .i64 0, .int .i64 0, .int .i64 0, .slice none 0 0, .slice none 0 0, .slice none 0 0, .slice none 0 0] 219)).alloc (.cells #[.bool false, .int .i64 0] 47) = W at *
  have hWs : W.heap.size = w.heap.size + 1 + 1 + 1 := by rw [← hW]; simp only [World.size_alloc]
  simp only [hWs] at hst0
  clear hst h
  go_enter Tryz.func94, Tryz.ntmps94
  go_wp2_with (first | (refine wpList_load_run (t := 39) rfl rfl rfl hlp ?_) | (refine wpList_store_run (t := 39) rfl rfl rfl rfl (hst0 _ rfl) (stop_ ?_)))
  unfold Stop
  clear hlp hst0
  have hS2 := hS1.to (by ac_rfl : _ = blk fw (.cells #[.pointer (some ⟨pol, 0, none⟩), .pointer (some ⟨ck, 0, none⟩), .pointer (some ⟨pd, 0, none⟩), .pointer (some ⟨st, 0, none⟩), .pointer (some ⟨fc, 0, none⟩), .pointer (some ⟨fl, 0, none⟩), .int .i64 1, .int .i64 1, .int .i64 1, .int .i64 k] 73) • policyH pol • (blk (w.heap.size + 1 + 1 + 1) (.cells TU 39) • blk (w.heap.size + 1 + 1) (.cells #[.bool false, .int .i64 0] 47) • blk (w.heap.size + 1) (.cells #[.int .i64 0, .bool false, .int .i64 0, .int .i64 0, .int .i64 0, .slice none 0 0, .slice none 0 0, .slice none 0 0, .slice none 0 0] 219) • blk w.heap.size (.cells PK 44) • blk ck (.cells #[.int .u64 0] 105) • fltab fl room R next • F))
  have c1 := cm _ _ hS2
  have hl1 := (hTU _ _ hS1.heap).1
  clear cm hS1 hS2
  generalize hpb : w.heap.size = pb at *
  go_wp2_with (refine wpList_load_run (t := 39) rfl rfl rfl hl1 (stop_ ?_))
  unfold Stop
  go_wp2_with fail
  refine c1.mono ?_
  rintro e u1 ⟨rfl, hU1⟩
  have hU2 := hU1.to (by ac_rfl : _ = blk (pb + 1 + 1 + 1) (.cells TU 39) • blk pb (.cells PK 44) • fltab fl room R next • blk fw (.cells #[.pointer (some ⟨pol, 0, none⟩), .pointer (some ⟨ck, 0, none⟩), .pointer (some ⟨pd, 0, none⟩), .pointer (some ⟨st, 0, none⟩), .pointer (some ⟨fc, 0, none⟩), .pointer (some ⟨fl, 0, none⟩), .int .i64 1, .int .i64 1, .int .i64 1, .int .i64 k] 73) • blk (pb + 1 + 1) (.cells #[.bool false, .int .i64 0] 47) • (blk (pb + 1) (.cells #[.int .i64 0, .bool false, .int .i64 0, .int .i64 0, .int .i64 0, .slice none 0 0, .slice none 0 0, .slice none 0 0, .slice none 0 0] 219) • policyH pol • blk ck (.cells #[.int .u64 0] 105) • F))
  have d34 := (hTU _ _ hU2.heap).2
  have d37 : u1.cell? ⟨pb, 37, none⟩ = some (.int .i64 0) := cell_heap hU2.pull2.heap dpk
  clear c1 hl1 hU1
  go_wp2_with fail
  refine (begins_any 17 0 _).mono ?_
  rintro e u2 ⟨rfl, rfl⟩
  rw [show beginsF 17 0 = true from rfl]
  clear d34 d37
  have hge : decide (k ≤ (R.length : Int)) = true := decide_eq_true hk
  clear hk
  go_wp2_with fail
  try go_frame
  refine wp_region_ord [(0, .pure), (1, .pure), (2, .pure), (3, .quiet), (5, .pure), (6, .pure), (7, .pure), (8, .pure), (9, .quiet), (4, .acts), (10, .pure), (11, .pure), (12, .pure), (13, .pure), (14, .pure), (15, .quiet), (16, .quiet), (17, .acts), (18, .acts), (19, .pure), (20, .pure), (21, .pure)] (by kernel_rfl) (by kernel_rfl)
    (fun w' => w'.heap[fw]? = some (.cells #[.pointer (some ⟨pol, 0, none⟩), .pointer (some ⟨ck, 0, none⟩), .pointer (some ⟨pd, 0, none⟩), .pointer (some ⟨st, 0, none⟩), .pointer (some ⟨fc, 0, none⟩), .pointer (some ⟨fl, 0, none⟩), .int .i64 1, .int .i64 1, .int .i64 1, .int .i64 k] 73)) hU2.drew.pull4.heap ?_
  iterate 3 (refine ord_pure rfl rfl rfl (fun K' hK => ?_); go_big_quiet_op; refine hK _ ?_; clear hK K')
  refine ord_load (t := 70) rfl rfl rfl (p := .pointer (some ⟨fw, 5, none⟩)) (v := .pointer (some ⟨fl, 0, none⟩)) rfl (fun w' hC => run_loadAt_one hC Tryz.underlying70 rfl rfl) (fun K' hK => ?_)
  go_simp
  refine hK _ ?_
  clear hK K'
  iterate 4 (refine ord_pure rfl rfl rfl (fun K' hK => ?_); go_big_quiet_op; refine hK _ ?_; clear hK K')
  refine ord_load (t := 3) rfl rfl rfl (p := .pointer (some ⟨fw, 9, none⟩)) (v := .int .i64 k) rfl (fun w' hC => run_loadAt_one hC Tryz.underlying3 rfl rfl) (fun K' hK => ?_)
  go_simp
  refine hK _ ?_
  clear hK K'
  refine ord_acts rfl rfl (fun K' hK => ?_)
  go_simp
  refine (flLen_any hU2.drew.pull3).mono ?_
  rintro e u3 ⟨rfl, rfl⟩
  refine hK _ _ (hU2.drew.pull4.heap) ?_
  clear hK K'
  go_simp
  iterate 2 (refine ord_pure rfl rfl rfl (fun K' hK => ?_); go_big_quiet_op; refine hK _ ?_; clear hK K')
  iterate 8 (refine ord_skip' rfl rfl (fun K' hK => ?_); go_simp; refine hK _ ?_; clear hK K')
  iterate 2 (refine ord_pure rfl rfl rfl (fun K' hK => ?_); go_big_quiet_op; refine hK _ ?_; clear hK K')
  refine ord_nil ?_
  clear hge
  go_wp2_with fail
  refine (refused_any 8 _).mono ?_
  rintro e u4 ⟨rfl, hb4⟩
  have hU4 := (hU2.drew.below_ hb4).to (by ac_rfl : _ = blk (pb + 1 + 1) (.cells #[.bool false, .int .i64 0] 47) • (blk (pb + 1 + 1 + 1) (.cells TU 39) • blk pb (.cells PK 44) • fltab fl room R next • blk fw (.cells #[.pointer (some ⟨pol, 0, none⟩), .pointer (some ⟨ck, 0, none⟩), .pointer (some ⟨pd, 0, none⟩), .pointer (some ⟨st, 0, none⟩), .pointer (some ⟨fc, 0, none⟩), .pointer (some ⟨fl, 0, none⟩), .int .i64 1, .int .i64 1, .int .i64 1, .int .i64 k] 73) • (blk (pb + 1) (.cells #[.int .i64 0, .bool false, .int .i64 0, .int .i64 0, .int .i64 0, .slice none 0 0, .slice none 0 0, .slice none 0 0, .slice none 0 0] 219) • policyH pol • blk ck (.cells #[.int .u64 0] 105) • F)))
  clear hb4 hU2
  have hst4 := run_storeAt_row (P := Tryz.prog) (o := 0) (ty := 47) (v := .agg #[.bool false, .int .i64 8]) hU4.heap (by kernel_rfl) (by simp [Value.cells]) (by simp [Value.cells, Value.oneCell'])
  have hR4 := hU4.setRow (cs := #[.bool false, .int .i64 8])
  simp only [Value.cells] at hst4
  rw [show splice (#[.bool false, .int .i64 0] : Array Value) 0 (#[.bool false, .int .i64 8] : Array Value).toList = #[.bool false, .int .i64 8] by rfl] at hst4
  have hl4 : (Instr.loadAt 47 (.pointer (some ⟨pb + 1 + 1, 0, none⟩))).run Tryz.prog (u4.setRow (pb + 1 + 1) #[.bool false, .int .i64 8]) = .ok (.agg #[.bool false, .int .i64 8]) (u4.setRow (pb + 1 + 1) #[.bool false, .int .i64 8]) :=
    run_loadAt_row (cs := [.bool false, .int .i64 8]) hR4.heap Tryz.underlying47 rfl (by kernel_rfl) (fun j u hu => by simpa using hu)
  have HF := Lib.hid ((hR4.to (by ac_rfl : _ = blk (pb + 1 + 1) (.cells #[.bool false, .int .i64 8] 47) • blk (pb + 1 + 1 + 1) (.cells TU 39) • blk pb (.cells PK 44) • blk (pb + 1) (.cells #[.int .i64 0, .bool false, .int .i64 0, .int .i64 0, .int .i64 0, .slice none 0 0, .slice none 0 0, .slice none 0 0, .slice none 0 0] 219) • (blk fw (.cells #[.pointer (some ⟨pol, 0, none⟩), .pointer (some ⟨ck, 0, none⟩), .pointer (some ⟨pd, 0, none⟩), .pointer (some ⟨st, 0, none⟩), .pointer (some ⟨fc, 0, none⟩), .pointer (some ⟨fl, 0, none⟩), .int .i64 1, .int .i64 1, .int .i64 1, .int .i64 k] 73) • blk ck (.cells #[.int .u64 0] 105) • policyH pol • fltab fl room R next • F))).drop.drop.drop.drop)
  clear hU4 hR4
  go_wp2_with (refine wpList_store_run (t := 47) rfl rfl rfl rfl hst4 (stop_ ?_))
  unfold Stop
  go_wp2_with fail
  refine ret_cell rfl rfl hl4 rfl ⟨rfl, HF.out⟩
set_option maxRecDepth 8000 in
set_option maxHeartbeats 12000000 in
theorem fresh_room {B : Nat} {w0 w : World} {F : HP} {fw pol ck pd st fc fl room : Nat} {k next : Int} {R : List FIt} (p : Int) (A : Option Addr) (d : Nat) (hB : 0 < B) (hE : Et w0) (hnx : 0 ≤ next ∧ next ≤ 1000000000) (hk : (R.length : Int) < k) (h : Sat B w0 w (blk fw (fwB pol ck pd st fc fl k) • blk ck (.cells #[.int .u64 0] 105) • policyH pol • fltab fl room R next • F)) : Calls Tryz.prog 94 #[.pointer (some ⟨fw, 0, none⟩), .agg (pkP p A d).toArray, .agg #[.int .i64 0, .bool false, .int .i64 0, .int .i64 0, .int .i64 0, .slice none 0 0, .slice none 0 0, .slice none 0 0, .slice none 0 0], .bool false] w fun e w' => e = .returned (.agg #[.bool true, .int .i64 2]) ∧ ∃ x, Sat B w0 w' (blk fw (fwB pol ck pd st fc fl k) • blk ck (.cells #[.int .u64 0] 105) • policyH pol • fltab fl room (begR room R next x (tuT p) 0 0) (begN room R next (tuT p) 0) • F) := by
  have hS1 := (((h.alloc (.cells (pkP p A d).toArray 44)).alloc (.cells #[.int .i64 0, .bool false, .int .i64 0, .int .i64 0, .int .i64 0, .slice none 0 0, .slice none 0 0, .slice none 0 0, .slice none 0 0] 219)).alloc (.cells #[.bool false, .int .i64 0] 47)).alloc (.cells (tuC p).toArray 39)
  simp only [World.size_alloc] at hS1
  have hlp : (Instr.loadAt 39 (.pointer (some ⟨w.heap.size, 0, none⟩))).run Tryz.prog (((w.alloc (.cells (pkP p A d).toArray 44)).alloc (.cells #[.int .i64 0, .bool false, .int .i64 0, .int .i64 0, .int .i64 0, .slice none 0 0, .slice none 0 0, .slice none 0 0, .slice none 0 0] 219)).alloc (.cells #[.bool false, .int .i64 0] 47)) = .ok (.agg (tuC p).toArray) (((w.alloc (.cells (pkP p A d).toArray 44)).alloc (.cells #[.int .i64 0, .bool false, .int .i64 0, .int .i64 0, .int .i64 0, .slice none 0 0, .slice none 0 0, .slice none 0 0, .slice none 0 0] 219)).alloc (.cells #[.bool false, .int .i64 0] 47)) := by
    have hS0 := ((h.alloc (.cells (pkP p A d).toArray 44)).alloc (.cells #[.int .i64 0, .bool false, .int .i64 0, .int .i64 0, .int .i64 0, .slice none 0 0, .slice none 0 0, .slice none 0 0, .slice none 0 0] 219)).alloc (.cells #[.bool false, .int .i64 0] 47)
    exact run_loadAt_row (cs := tuC p) hS0.pull3.heap Tryz.underlying39 rfl (by rw [tuC_len]; kernel_rfl) (fun j u hu => by rw [Nat.zero_add]; exact pkP_tu p A d j u hu)
  have hst : ∀ W : World, ∀ z : Array Value, z.size = 37 → (Instr.storeAt 39 (.pointer (some ⟨W.heap.size, 0, none⟩)) (.agg (tuC p).toArray)).run Tryz.prog (W.alloc (.cells z 39)) = .ok () (W.alloc (.cells (tuC p).toArray 39)) :=
    fun W z hz => run_storeAt_new (v := .agg (tuC p).toArray) (by kernel_rfl) (by rw [hz]; rfl) (by simpa [Value.cells] using tuC_one p)
  have d1 : (((((w.alloc (.cells (pkP p A d).toArray 44)).alloc (.cells #[.int .i64 0, .bool false, .int .i64 0, .int .i64 0, .int .i64 0, .slice none 0 0, .slice none 0 0, .slice none 0 0, .slice none 0 0] 219)).alloc (.cells #[.bool false, .int .i64 0] 47)).alloc (.cells (tuC p).toArray 39))).heap.size = w.heap.size + 1 + 1 + 1 + 1 := by simp only [World.size_alloc]
  clear d1
  have hTU : ∀ (b : Nat) (V : World), V.heap[b]? = some (.cells (tuC p).toArray 39) → (Instr.loadAt 39 (.pointer (some ⟨b, 0, none⟩))).run Tryz.prog V = .ok (.agg (tuC p).toArray) V ∧ V.cell? ⟨b, 34, none⟩ = some (.int .i64 17) := fun b V hV =>
    ⟨run_loadAt_row (cs := tuC p) hV Tryz.underlying39 rfl (by rw [tuC_len]; kernel_rfl) (fun j u hu => by simpa using hu), cell_heap hV rfl⟩
  have dpk : (pkP p A d).toArray[37]? = some (.int .i64 0) := rfl
  have cm := fun (W : World) (G : HP) (hW : Sat B w0 W (blk fw (.cells #[.pointer (some ⟨pol, 0, none⟩), .pointer (some ⟨ck, 0, none⟩), .pointer (some ⟨pd, 0, none⟩), .pointer (some ⟨st, 0, none⟩), .pointer (some ⟨fc, 0, none⟩), .pointer (some ⟨fl, 0, none⟩), .int .i64 1, .int .i64 1, .int .i64 1, .int .i64 k] 73) • policyH pol • G)) => fmay_any (B := B) (w0 := w0) (F := G) p hW
  have cb := fun (W : World) (G : HP) (hW : Sat B w0 W (fltab fl room R next • G)) => flBegin_any hW hB hE hnx (tuT p) 0 0 (by decide) (by decide)
  have cs := server_no fw p
  have hst0 := hst (((w.alloc (.cells (pkP p A d).toArray 44)).alloc (.cells #[.int .i64 0, .bool false, .int .i64 0, .int .i64 0, .int .i64 0, .slice none 0 0, .slice none 0 0, .slice none 0 0, .slice none 0 0] 219)).alloc (.cells #[.bool false, .int .i64 0] 47))
  rw [tuT_enc] at cb
  unfold fwB at *
  generalize (tuC p).toArray = TU at *
  generalize (pkP p A d).toArray = PK at *
  generalize hW : ((w.alloc (.cells PK 44)).alloc (.cells #[.int .i64 0, .bool false, .int .i64 0, .int .i64 0, .int .i64 0, .slice none 0 0, .slice none 0 0, .slice none 0 0, .slice none 0 0] 219)).alloc (.cells #[.bool false, .int .i64 0] 47) = W at *
  have hWs : W.heap.size = w.heap.size + 1 + 1 + 1 := by rw [← hW]; simp only [World.size_alloc]
  simp only [hWs] at hst0
  clear hst h
  go_enter Tryz.func94, Tryz.ntmps94
  go_wp2_with (first | (refine wpList_load_run (t := 39) rfl rfl rfl hlp ?_) | (refine wpList_store_run (t := 39) rfl rfl rfl rfl (hst0 _ rfl) (stop_ ?_)))
  unfold Stop
  clear hlp hst0
  have hS2 := hS1.to (by ac_rfl : _ = blk fw (.cells #[.pointer (some ⟨pol, 0, none⟩), .pointer (some ⟨ck, 0, none⟩), .pointer (some ⟨pd, 0, none⟩), .pointer (some ⟨st, 0, none⟩), .pointer (some ⟨fc, 0, none⟩), .pointer (some ⟨fl, 0, none⟩), .int .i64 1, .int .i64 1, .int .i64 1, .int .i64 k] 73) • policyH pol • (blk (w.heap.size + 1 + 1 + 1) (.cells TU 39) • blk (w.heap.size + 1 + 1) (.cells #[.bool false, .int .i64 0] 47) • blk (w.heap.size + 1) (.cells #[.int .i64 0, .bool false, .int .i64 0, .int .i64 0, .int .i64 0, .slice none 0 0, .slice none 0 0, .slice none 0 0, .slice none 0 0] 219) • blk w.heap.size (.cells PK 44) • blk ck (.cells #[.int .u64 0] 105) • fltab fl room R next • F))
  have c1 := cm _ _ hS2
  have hl1 := (hTU _ _ hS1.heap).1
  clear cm hS1 hS2
  generalize hpb : w.heap.size = pb at *
  go_wp2_with (refine wpList_load_run (t := 39) rfl rfl rfl hl1 (stop_ ?_))
  unfold Stop
  go_wp2_with fail
  refine c1.mono ?_
  rintro e u1 ⟨rfl, hU1⟩
  have hU2 := hU1.to (by ac_rfl : _ = blk (pb + 1 + 1 + 1) (.cells TU 39) • blk pb (.cells PK 44) • fltab fl room R next • blk fw (.cells #[.pointer (some ⟨pol, 0, none⟩), .pointer (some ⟨ck, 0, none⟩), .pointer (some ⟨pd, 0, none⟩), .pointer (some ⟨st, 0, none⟩), .pointer (some ⟨fc, 0, none⟩), .pointer (some ⟨fl, 0, none⟩), .int .i64 1, .int .i64 1, .int .i64 1, .int .i64 k] 73) • blk (pb + 1 + 1) (.cells #[.bool false, .int .i64 0] 47) • (blk (pb + 1) (.cells #[.int .i64 0, .bool false, .int .i64 0, .int .i64 0, .int .i64 0, .slice none 0 0, .slice none 0 0, .slice none 0 0, .slice none 0 0] 219) • policyH pol • blk ck (.cells #[.int .u64 0] 105) • F))
  have d34 := (hTU _ _ hU2.heap).2
  have d37 : u1.cell? ⟨pb, 37, none⟩ = some (.int .i64 0) := cell_heap hU2.pull2.heap dpk
  clear c1 hl1 hU1
  go_wp2_with fail
  refine (begins_any 17 0 _).mono ?_
  rintro e u2 ⟨rfl, rfl⟩
  rw [show beginsF 17 0 = true from rfl]
  clear d34 d37
  have hge : decide (k ≤ (R.length : Int)) = false := decide_eq_false (by omega)
  clear hk
  go_wp2_with fail
  try go_frame
  refine wp_region_ord [(0, .pure), (1, .pure), (2, .pure), (3, .quiet), (5, .pure), (6, .pure), (7, .pure), (8, .pure), (9, .quiet), (4, .acts), (10, .pure), (11, .pure), (12, .pure), (13, .pure), (14, .pure), (15, .quiet), (16, .quiet), (17, .acts), (18, .acts), (19, .pure), (20, .pure), (21, .pure)] (by kernel_rfl) (by kernel_rfl)
    (fun w' => w'.heap[fw]? = some (.cells #[.pointer (some ⟨pol, 0, none⟩), .pointer (some ⟨ck, 0, none⟩), .pointer (some ⟨pd, 0, none⟩), .pointer (some ⟨st, 0, none⟩), .pointer (some ⟨fc, 0, none⟩), .pointer (some ⟨fl, 0, none⟩), .int .i64 1, .int .i64 1, .int .i64 1, .int .i64 k] 73)) hU2.drew.pull4.heap ?_
  iterate 3 (refine ord_pure rfl rfl rfl (fun K' hK => ?_); go_big_quiet_op; refine hK _ ?_; clear hK K')
  refine ord_load (t := 70) rfl rfl rfl (p := .pointer (some ⟨fw, 5, none⟩)) (v := .pointer (some ⟨fl, 0, none⟩)) rfl (fun w' hC => run_loadAt_one hC Tryz.underlying70 rfl rfl) (fun K' hK => ?_)
  go_simp
  refine hK _ ?_
  clear hK K'
  iterate 4 (refine ord_pure rfl rfl rfl (fun K' hK => ?_); go_big_quiet_op; refine hK _ ?_; clear hK K')
  refine ord_load (t := 3) rfl rfl rfl (p := .pointer (some ⟨fw, 9, none⟩)) (v := .int .i64 k) rfl (fun w' hC => run_loadAt_one hC Tryz.underlying3 rfl rfl) (fun K' hK => ?_)
  go_simp
  refine hK _ ?_
  clear hK K'
  refine ord_acts rfl rfl (fun K' hK => ?_)
  go_simp
  refine (flLen_any hU2.drew.pull3).mono ?_
  rintro e u3 ⟨rfl, rfl⟩
  refine hK _ _ (hU2.drew.pull4.heap) ?_
  clear hK K'
  go_simp
  iterate 4 (refine ord_pure rfl rfl rfl (fun K' hK => ?_); go_big_quiet_op; refine hK _ ?_; clear hK K')
  iterate 5 (refine ord_skip' rfl rfl (fun K' hK => ?_); go_simp; refine hK _ ?_; clear hK K')
  iterate 3 (refine ord_pure rfl rfl rfl (fun K' hK => ?_); go_big_quiet_op; refine hK _ ?_; clear hK K')
  refine ord_nil ?_
  clear hge
  have hU3 := hU2.drew
  have hCK := hU3.to (by ac_rfl : _ = blk ck (.cells #[.int .u64 0] 105) • (blk (pb + 1 + 1 + 1) (.cells TU 39) • blk pb (.cells PK 44) • fltab fl room R next • blk fw (.cells #[.pointer (some ⟨pol, 0, none⟩), .pointer (some ⟨ck, 0, none⟩), .pointer (some ⟨pd, 0, none⟩), .pointer (some ⟨st, 0, none⟩), .pointer (some ⟨fc, 0, none⟩), .pointer (some ⟨fl, 0, none⟩), .int .i64 1, .int .i64 1, .int .i64 1, .int .i64 k] 73) • (blk (pb + 1 + 1) (.cells #[.bool false, .int .i64 0] 47) • blk (pb + 1) (.cells #[.int .i64 0, .bool false, .int .i64 0, .int .i64 0, .int .i64 0, .slice none 0 0, .slice none 0 0, .slice none 0 0, .slice none 0 0] 219) • policyH pol • F)))
  clear hU2
  go_wp2_with fail
  try go_frame
  refine wp_region_ord [(0, .pure), (1, .pure), (2, .pure), (3, .quiet), (4, .quiet), (5, .pure), (6, .quiet), (7, .pure), (8, .pure), (9, .pure), (10, .quiet), (11, .acts), (12, .seals)] (by kernel_rfl) (by kernel_rfl)
    (fun w' => w'.heap[fw]? = some (.cells #[.pointer (some ⟨pol, 0, none⟩), .pointer (some ⟨ck, 0, none⟩), .pointer (some ⟨pd, 0, none⟩), .pointer (some ⟨st, 0, none⟩), .pointer (some ⟨fc, 0, none⟩), .pointer (some ⟨fl, 0, none⟩), .int .i64 1, .int .i64 1, .int .i64 1, .int .i64 k] 73) ∧ w'.heap[pb + 1 + 1 + 1]? = some (.cells TU 39) ∧ w'.heap[pb]? = some (.cells PK 44)) ⟨hU3.drew.pull4.heap, hU3.drew.heap, hU3.drew.pull2.heap⟩ ?_
  iterate 3 (refine ord_pure rfl rfl rfl (fun K' hK => ?_); go_big_quiet_op; refine hK _ ?_; clear hK K')
  refine ord_load (t := 70) rfl rfl rfl (p := .pointer (some ⟨fw, 5, none⟩)) (v := .pointer (some ⟨fl, 0, none⟩)) rfl (fun w' hC => run_loadAt_one hC.1 Tryz.underlying70 rfl rfl) (fun K' hK => ?_)
  go_simp
  refine hK _ ?_
  clear hK K'
  refine ord_load (t := 39) rfl rfl rfl (p := .pointer (some ⟨pb + 1 + 1 + 1, 0, none⟩)) (v := .agg TU) rfl (fun w' hC => (hTU _ _ hC.2.1).1) (fun K' hK => ?_)
  go_simp
  refine hK _ ?_
  clear hK K'
  iterate 1 (refine ord_pure rfl rfl rfl (fun K' hK => ?_); go_big_quiet_op; refine hK _ ?_; clear hK K')
  refine ord_load (t := 3) rfl rfl rfl (p := .pointer (some ⟨pb, 37, none⟩)) (v := .int .i64 0) rfl (fun w' hC => run_loadAt_one hC.2.2 Tryz.underlying3 rfl dpk) (fun K' hK => ?_)
  go_simp
  refine hK _ ?_
  clear hK K'
  iterate 3 (refine ord_pure rfl rfl rfl (fun K' hK => ?_); go_big_quiet_op; refine hK _ ?_; clear hK K')
  refine ord_load (t := 62) rfl rfl rfl (p := .pointer (some ⟨fw, 1, none⟩)) (v := .pointer (some ⟨ck, 0, none⟩)) rfl (fun w' hC => run_loadAt_one hC.1 Tryz.underlying62 rfl rfl) (fun K' hK => ?_)
  go_simp
  refine hK _ ?_
  clear hK K'
  refine ord_acts rfl rfl (fun K' hK => ?_)
  go_simp
  refine (now_any ck _ (cell_heap hCK.drew.heap rfl)).mono ?_
  rintro e u4 ⟨rfl, rfl⟩
  refine hK _ _ (⟨hU3.drew.pull4.heap, hU3.drew.heap, hU3.drew.pull2.heap⟩) ?_
  clear hK K'
  go_simp
  refine ord_seals rfl rfl (fun K' hK => ?_)
  go_simp
  refine (cb _ _ hU3.drew.pull3).mono ?_
  rintro e u5 ⟨x, rfl, hU5⟩
  refine hK (fun _ => True) _ _ trivial ?_
  clear hK K'
  go_simp
  refine ord_nil ?_
  clear hU3 hCK cb
  generalize hR' : begR room R next x (tuT p) 0 0 = R' at *
  generalize hN' : begN room R next (tuT p) 0 = N' at *
  have HR' := Lib.hid hR'
  have HN' := Lib.hid hN'
  clear hR' hN'
  have hU6 := hU5.to (by ac_rfl : _ = blk (pb + 1 + 1 + 1) (.cells TU 39) • blk (pb + 1 + 1) (.cells #[.bool false, .int .i64 0] 47) • (blk pb (.cells PK 44) • blk (pb + 1) (.cells #[.int .i64 0, .bool false, .int .i64 0, .int .i64 0, .int .i64 0, .slice none 0 0, .slice none 0 0, .slice none 0 0, .slice none 0 0] 219) • (blk fw (.cells #[.pointer (some ⟨pol, 0, none⟩), .pointer (some ⟨ck, 0, none⟩), .pointer (some ⟨pd, 0, none⟩), .pointer (some ⟨st, 0, none⟩), .pointer (some ⟨fc, 0, none⟩), .pointer (some ⟨fl, 0, none⟩), .int .i64 1, .int .i64 1, .int .i64 1, .int .i64 k] 73) • blk ck (.cells #[.int .u64 0] 105) • policyH pol • fltab fl room R' N' • F)))
  have hl6 := (hTU _ _ hU6.heap).1
  clear hU5
  go_wp2_with (refine wpList_load_run (t := 39) rfl rfl rfl hl6 (stop_ ?_))
  unfold Stop
  go_wp2_with fail
  refine (cs _).mono ?_
  rintro e u7 ⟨rfl, hb7⟩
  have hU7 := hU6.below_ hb7
  clear hU6 hb7 hl6
  go_wp2_with fail
  refine (accepted_any 2 _).mono ?_
  rintro e u8 ⟨rfl, hb8⟩
  have hU8 := (hU7.below_ hb8).pull2
  clear hU7 hb8
  have hst8 := run_storeAt_row (P := Tryz.prog) (o := 0) (ty := 47) (v := .agg #[.bool true, .int .i64 2]) hU8.heap (by kernel_rfl) (by simp [Value.cells]) (by simp [Value.cells, Value.oneCell'])
  have hR8 := hU8.setRow (cs := #[.bool true, .int .i64 2])
  simp only [Value.cells] at hst8
  rw [show splice (#[.bool false, .int .i64 0] : Array Value) 0 (#[.bool true, .int .i64 2] : Array Value).toList = #[.bool true, .int .i64 2] by rfl] at hst8
  have hl8 : (Instr.loadAt 47 (.pointer (some ⟨pb + 1 + 1, 0, none⟩))).run Tryz.prog (u8.setRow (pb + 1 + 1) #[.bool true, .int .i64 2]) = .ok (.agg #[.bool true, .int .i64 2]) (u8.setRow (pb + 1 + 1) #[.bool true, .int .i64 2]) :=
    run_loadAt_row (cs := [.bool true, .int .i64 2]) hR8.heap Tryz.underlying47 rfl (by kernel_rfl) (fun j u hu => by simpa using hu)
  have HF := Lib.hid hR8.drop.drop.drop.drop
  clear hU8 hR8
  go_wp2_with (refine wpList_store_run (t := 47) rfl rfl rfl rfl hst8 (stop_ ?_))
  unfold Stop
  go_wp2_with fail
  refine ret_cell rfl rfl hl8 rfl ⟨rfl, x, by rw [HR'.out, HN'.out]; exact HF.out⟩
end Go.Proofs.YtdcekoocnoackaaGreatDoor
