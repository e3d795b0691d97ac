import Derived.Test.YtdcekoocnoackaaGreatDoorPart46

/-! firewall.out. -/
namespace Go.Proofs.YtdcekoocnoackaaGreatDoor
open Go Go.RowKit

attribute [local irreducible] wpOrd
set_option maxRecDepth 8000 in
set_option maxHeartbeats 16000000 in
theorem out_going {B : Nat} {w0 w : World} {F : HP} {fw pol ck pd st fc fl room : Nat} {k next : Int} {R : List FIt} {f : Flw} {Q : Nat → HP} {vb0 : Bool} {vc0 : Int} (p : Int) (A : Option Addr) (d : Nat) (hB : 1 < B) (hE : Et w0) (hg : getV R (tuT p) = .tuple #[.agg f.enc.toArray, .bool true])
    (hcon : ∀ A d W G, Sat B w0 W (blk fw (fwB pol ck pd st fc fl k) • blk ck (.cells #[.int .u64 0] 105) • policyH pol • fltab fl room R next • G) → Calls Tryz.prog 93 #[.pointer (some ⟨fw, 0, none⟩), .agg (pkP p A d).toArray, .agg #[.int .i64 0, .bool false, .int .i64 0, .int .i64 0, .int .i64 0, .slice none 0 0, .slice none 0 0, .slice none 0 0, .slice none 0 0], .bool false] W fun e w' => ∃ x, e = .returned (.agg #[.bool vb0, .int .i64 vc0]) ∧ Sat B w0 w' (Q x • G))
    (h : Sat B w0 w (blk fw (fwB pol ck pd st fc fl k) • blk ck (.cells #[.int .u64 0] 105) • policyH pol • fltab fl room R next • F)) : Calls Tryz.prog 43 #[.pointer (some ⟨fw, 0, none⟩), .agg (pkP p A d).toArray] w fun e w' => ∃ x, e = .returned (.agg #[.bool vb0, .int .i64 vc0]) ∧ Sat B w0 w' (Q x • F) := by
  have hS0 := (h.alloc (.cells (pkP p A d).toArray 44)).alloc (.cells #[.bool false, .int .i64 0] 47)
  have hS1 := hS0.alloc (.cells (tuC p).toArray 39)
  simp only [World.size_alloc] at hS0 hS1
  have hlp : (Instr.loadAt 39 (.pointer (some ⟨w.heap.size, 0, none⟩))).run Tryz.prog ((w.alloc (.cells (pkP p A d).toArray 44)).alloc (.cells #[.bool false, .int .i64 0] 47)) = .ok (.agg (tuC p).toArray) ((w.alloc (.cells (pkP p A d).toArray 44)).alloc (.cells #[.bool false, .int .i64 0] 47)) :=
    run_loadAt_row (cs := tuC p) hS0.pull2.heap Tryz.underlying39 rfl (by rw [tuC_len]; kernel_rfl) (fun j u hu => by rw [Nat.zero_add]; exact pkP_tu p A d j u hu)
  have hst0 : ∀ z : Array Value, z.size = 37 → (Instr.storeAt 39 (.pointer (some ⟨w.heap.size + 1 + 1, 0, none⟩)) (.agg (tuC p).toArray)).run Tryz.prog (((w.alloc (.cells (pkP p A d).toArray 44)).alloc (.cells #[.bool false, .int .i64 0] 47)).alloc (.cells z 39)) = .ok () (((w.alloc (.cells (pkP p A d).toArray 44)).alloc (.cells #[.bool false, .int .i64 0] 47)).alloc (.cells (tuC p).toArray 39)) := fun z hz => by
    have hh := run_storeAt_new (P := Tryz.prog) (w := (w.alloc (.cells (pkP p A d).toArray 44)).alloc (.cells #[.bool false, .int .i64 0] 47)) (ty := 39) (t := 39) (z := z) (v := .agg (tuC p).toArray) (by kernel_rfl) (by rw [hz]; rfl) (by simpa [Value.cells] using tuC_one p)
    simp only [World.size_alloc] at hh
    exact hh
  have hTU : ∀ (b : Nat) (V : World), V.heap[b]? = some (.cells (tuC p).toArray 39) → (Instr.loadAt 39 (.pointer (some ⟨b, 0, none⟩))).run Tryz.prog V = .ok (.agg (tuC p).toArray) V ∧ V.cell? ⟨b, 34, none⟩ = some (.int .i64 17) := fun b V hV =>
    ⟨run_loadAt_row (cs := tuC p) hV Tryz.underlying39 rfl (by rw [tuC_len]; kernel_rfl) (fun j u hu => by simpa using hu), cell_heap hV rfl⟩
  have hPK : ∀ (b : Nat) (V : World), V.heap[b]? = some (.cells (pkP p A d).toArray 44) → (Instr.loadAt 44 (.pointer (some ⟨b, 0, none⟩))).run Tryz.prog V = .ok (.agg (pkP p A d).toArray) V := fun b V hV =>
    run_loadAt_row (cs := pkP p A d) hV Tryz.underlying44 rfl (by rw [pkP_len]; kernel_rfl) (fun j u hu => by simpa using hu)
  have d40 : (((w.alloc (.cells (pkP p A d).toArray 44)).alloc (.cells #[.bool false, .int .i64 0] 47)).alloc (.cells (tuC p).toArray 39)).cell? ⟨w.heap.size, 40, none⟩ = some (.int .i64 0) := cell_heap hS1.pull3.heap rfl
  have dp79 : (pkP p A d).toArray[79]? = some (.slice A 0 d) := rfl
  have cg := fun (W : World) (G : HP) (hW : Sat B w0 W (fltab fl room R next • G)) => flGet_any hW (tuT p)
  rw [hg, tuT_enc] at cg
  have hz : (Tryz.prog.info? 149).map (·.zero) = some (some (.agg zFlw.enc.toArray)) := by kernel_rfl
  have hst := fun W : World => flw_storeN f W zFlw.enc.toArray rfl
  have hFZs : zFlw.enc.toArray.size = 40 := rfl
  have hFEs : f.enc.toArray.size = 40 := by rw [List.size_toArray, Flw.enc_length]
  have hFEo : ∀ u ∈ (Value.agg f.enc.toArray).cells.toList, u.oneCell' = true := by simpa [Value.cells] using f.enc_one
  have hstM : ∀ W : World, ∀ z : Array Value, z.size = 9 → (Instr.storeAt 219 (.pointer (some ⟨W.heap.size, 0, none⟩)) (.agg #[.int .i64 0, .bool false, .int .i64 0, .int .i64 0, .int .i64 0, .slice none 0 0, .slice none 0 0, .slice none 0 0, .slice none 0 0])).run Tryz.prog (W.alloc (.cells z 219)) = .ok () (W.alloc (.cells #[.int .i64 0, .bool false, .int .i64 0, .int .i64 0, .int .i64 0, .slice none 0 0, .slice none 0 0, .slice none 0 0, .slice none 0 0] 219)) :=
    fun W z hz => run_storeAt_new (v := .agg #[.int .i64 0, .bool false, .int .i64 0, .int .i64 0, .int .i64 0, .slice none 0 0, .slice none 0 0, .slice none 0 0, .slice none 0 0]) (by kernel_rfl) (by rw [hz]; rfl) (by simp [Value.cells, Value.oneCell'])
  have cs := server_no fw p
  have hco := hcon A d
  unfold fwB at *
  generalize f.enc.toArray = FE at *
  generalize hFZ : zFlw.enc.toArray = FZ at *
  generalize (tuC p).toArray = TU at *
  clear hcon
  generalize (pkP p A d).toArray = PK at *
  generalize hpb : w.heap.size = pb at *
  clear h hg hS0 hFZ
  go_enter Tryz.func43, Tryz.ntmps43
  go_wp2_with (first | (refine wpList_load_run (t := 39) rfl rfl rfl hlp ?_) | (refine wpList_store_run (t := 39) rfl rfl rfl rfl (hst0 _ rfl) (stop_ ?_)))
  unfold Stop
  clear hlp hst0
  have hl1 := (hTU _ _ hS1.heap).1
  go_wp2_with (refine wpList_load_run (t := 39) rfl rfl rfl hl1 (stop_ ?_))
  unfold Stop
  clear hl1 d40
  go_wp2_with fail
  refine (cs _).mono ?_
  rintro e u4 ⟨rfl, hb4⟩
  have hS4 := hS1.below_ hb4
  have d79 : u4.cell? ⟨pb, 79, none⟩ = some (.slice A 0 d) := cell_heap hS4.pull3.heap dp79
  have c5 := msg_empty A d hB hE hS4
  clear hS1 hb4 hS4
  go_wp2_with fail
  refine c5.mono ?_
  rintro e u5 ⟨rfl, hS5⟩
  have hS6 := hS5.alloc (.cells #[.int .i64 0, .bool false, .int .i64 0, .int .i64 0, .int .i64 0, .slice none 0 0, .slice none 0 0, .slice none 0 0, .slice none 0 0] 219)
  have hst6 := hstM u5
  clear c5 d79 hS5
  go_wp2_with (refine wpList_store_run (t := 219) rfl rfl rfl rfl (hst6 _ rfl) (stop_ ?_))
  unfold Stop
  generalize htb : pb + 1 + 1 = tb at *
  generalize hmb : u5.heap.size = mb at *
  generalize hu8 : u5.alloc (.cells #[.int .i64 0, .bool false, .int .i64 0, .int .i64 0, .int .i64 0, .slice none 0 0, .slice none 0 0, .slice none 0 0, .slice none 0 0] 219) = u8 at *
  have hS8 := hS6.to (by ac_rfl : _ = fltab fl room R next • blk tb (.cells TU 39) • blk fw (.cells #[.pointer (some ⟨pol, 0, none⟩), .pointer (some ⟨ck, 0, none⟩), .pointer (some ⟨pd, 0, none⟩), .pointer (some ⟨st, 0, none⟩), .pointer (some ⟨fc, 0, none⟩), .pointer (some ⟨fl, 0, none⟩), .int .i64 1, .int .i64 1, .int .i64 1, .int .i64 k] 73) • (blk mb (.cells #[.int .i64 0, .bool false, .int .i64 0, .int .i64 0, .int .i64 0, .slice none 0 0, .slice none 0 0, .slice none 0 0, .slice none 0 0] 219) • blk (pb + 1) (.cells #[.bool false, .int .i64 0] 47) • blk pb (.cells PK 44) • blk ck (.cells #[.int .u64 0] 105) • policyH pol • F))
  clear hS6 hst6 hstM
  go_wp2_with fail
  try go_frame
  refine wp_region_tree (.two [(0, .pure), (1, .pure), (2, .pure), (3, .quiet), (4, .quiet)] 5 (.leaf [(6, .pure), (7, .pure), (8, .pure), (9, .acts), (10, .seals), (11, .pure)]) 9 (.leaf [(5, .acts), (6, .pure), (7, .pure), (8, .pure), (10, .seals), (11, .pure)])) [10] (by kernel_rfl) (by kernel_rfl) (fun w' => w'.heap[fw]? = some (.cells #[.pointer (some ⟨pol, 0, none⟩), .pointer (some ⟨ck, 0, none⟩), .pointer (some ⟨pd, 0, none⟩), .pointer (some ⟨st, 0, none⟩), .pointer (some ⟨fc, 0, none⟩), .pointer (some ⟨fl, 0, none⟩), .int .i64 1, .int .i64 1, .int .i64 1, .int .i64 k] 73) ∧ w'.heap[tb]? = some (.cells TU 39)) ⟨hS8.drew.pull3.heap, hS8.drew.pull2.heap⟩ ?_
  have hSd := hS8.drew
  generalize u8.drew = W0 at *
  clear hS8
  refine tree_two ?_
  iterate 3 (refine ord_pure rfl rfl rfl (fun K' hK => ?_); go_big_quiet_op; refine hK _ ?_; clear hK K')
  refine ord_load (t := 70) rfl rfl rfl (p := .pointer (some ⟨fw, 5, none⟩)) (v := .pointer (some ⟨fl, 0, none⟩)) rfl (fun w' hC => run_loadAt_one hC.1 Tryz.underlying70 rfl rfl) (fun K' hK => ?_)
  go_simp
  refine hK _ ?_
  clear hK K'
  refine ord_load (t := 39) rfl rfl rfl (p := .pointer (some ⟨tb, 0, none⟩)) (v := .agg TU) rfl (fun w' hC => (hTU _ _ hC.2).1) (fun K' hK => ?_)
  go_simp
  refine hK _ ?_
  clear hK K'
  refine ord_nil ?_
  refine ⟨?_, ?_⟩
  · refine fork_act rfl rfl (fun K' hK => ?_)
    go_simp
    refine (cg _ _ (hSd)).mono ?_
    rintro e u3 ⟨rfl, hU3⟩
    refine hK _ _ ⟨hU3.pull3.heap, hU3.pull2.heap⟩ ?_
    clear hK K'
    go_simp
    refine tree_leaf ?_
    iterate 3 (refine ord_pure rfl rfl rfl (fun K' hK => ?_); go_big_quiet_op; refine hK _ ?_; clear hK K')
    refine ord_acts rfl rfl (fun K' hK => wp_alloc_run rfl hz (hK _ _ ⟨(hU3.alloc_ _).pull3.heap, (hU3.alloc_ _).pull2.heap⟩ ?_))
    clear hK K'
    go_simp
    refine ord_store rfl rfl rfl rfl (p := .pointer (some ⟨u3.heap.size, 0, none⟩)) (v := .agg FE) rfl rfl (hst u3) (fun _ => True) trivial ?_
    go_simp
    iterate 1 (refine ord_pure rfl rfl rfl (fun K' hK => ?_); go_big_quiet_op; refine hK _ ?_; clear hK K')
    refine ord_nil ?_
    have hT := (hU3.to (by ac_rfl : _ = blk tb (.cells TU 39) • (blk fw (.cells #[.pointer (some ⟨pol, 0, none⟩), .pointer (some ⟨ck, 0, none⟩), .pointer (some ⟨pd, 0, none⟩), .pointer (some ⟨st, 0, none⟩), .pointer (some ⟨fc, 0, none⟩), .pointer (some ⟨fl, 0, none⟩), .int .i64 1, .int .i64 1, .int .i64 1, .int .i64 k] 73) • fltab fl room R next • (blk mb (.cells #[.int .i64 0, .bool false, .int .i64 0, .int .i64 0, .int .i64 0, .slice none 0 0, .slice none 0 0, .slice none 0 0, .slice none 0 0] 219) • blk (pb + 1) (.cells #[.bool false, .int .i64 0] 47) • blk pb (.cells PK 44) • blk ck (.cells #[.int .u64 0] 105) • policyH pol • F)))).alloc_ (.cells FE 149)
    clear hU3 cg hz hst hSd
    generalize u3.alloc (.cells FE 149) = U3 at *
    have hlP := hPK _ _ (hT.to (by ac_rfl : _ = blk pb (.cells PK 44) • (blk tb (.cells TU 39) • blk mb (.cells #[.int .i64 0, .bool false, .int .i64 0, .int .i64 0, .int .i64 0, .slice none 0 0, .slice none 0 0, .slice none 0 0, .slice none 0 0] 219) • blk (pb + 1) (.cells #[.bool false, .int .i64 0] 47) • (blk fw (.cells #[.pointer (some ⟨pol, 0, none⟩), .pointer (some ⟨ck, 0, none⟩), .pointer (some ⟨pd, 0, none⟩), .pointer (some ⟨st, 0, none⟩), .pointer (some ⟨fc, 0, none⟩), .pointer (some ⟨fl, 0, none⟩), .int .i64 1, .int .i64 1, .int .i64 1, .int .i64 k] 73) • blk ck (.cells #[.int .u64 0] 105) • policyH pol • fltab fl room R next • F)))).heap
    have hlM : (Instr.loadAt 219 (.pointer (some ⟨mb, 0, none⟩))).run Tryz.prog U3 = .ok (.agg #[.int .i64 0, .bool false, .int .i64 0, .int .i64 0, .int .i64 0, .slice none 0 0, .slice none 0 0, .slice none 0 0, .slice none 0 0]) U3 :=
      run_loadAt_row (cs := [.int .i64 0, .bool false, .int .i64 0, .int .i64 0, .int .i64 0, .slice none 0 0, .slice none 0 0, .slice none 0 0, .slice none 0 0]) (hT.to (by ac_rfl : _ = blk mb (.cells #[.int .i64 0, .bool false, .int .i64 0, .int .i64 0, .int .i64 0, .slice none 0 0, .slice none 0 0, .slice none 0 0, .slice none 0 0] 219) • (blk tb (.cells TU 39) • blk pb (.cells PK 44) • blk (pb + 1) (.cells #[.bool false, .int .i64 0] 47) • (blk fw (.cells #[.pointer (some ⟨pol, 0, none⟩), .pointer (some ⟨ck, 0, none⟩), .pointer (some ⟨pd, 0, none⟩), .pointer (some ⟨st, 0, none⟩), .pointer (some ⟨fc, 0, none⟩), .pointer (some ⟨fl, 0, none⟩), .int .i64 1, .int .i64 1, .int .i64 1, .int .i64 k] 73) • blk ck (.cells #[.int .u64 0] 105) • policyH pol • fltab fl room R next • F)))).heap Tryz.underlying219 rfl (by kernel_rfl) (fun j u hu => by simpa using hu)
    have hT2 := hT.to (by ac_rfl : _ = blk fw (.cells #[.pointer (some ⟨pol, 0, none⟩), .pointer (some ⟨ck, 0, none⟩), .pointer (some ⟨pd, 0, none⟩), .pointer (some ⟨st, 0, none⟩), .pointer (some ⟨fc, 0, none⟩), .pointer (some ⟨fl, 0, none⟩), .int .i64 1, .int .i64 1, .int .i64 1, .int .i64 k] 73) • blk ck (.cells #[.int .u64 0] 105) • policyH pol • fltab fl room R next • (blk (pb + 1) (.cells #[.bool false, .int .i64 0] 47) • (blk pb (.cells PK 44) • blk tb (.cells TU 39) • blk mb (.cells #[.int .i64 0, .bool false, .int .i64 0, .int .i64 0, .int .i64 0, .slice none 0 0, .slice none 0 0, .slice none 0 0, .slice none 0 0] 219) • F)))
    have c9 := hco U3 _ hT2
    clear hT hT2
    go_wp2_with (first | (refine wpList_load_run (t := 44) rfl rfl rfl hlP ?_) | (refine wpList_load_run (t := 219) rfl rfl rfl hlM (stop_ ?_)))
    unfold Stop
    clear hlP hlM
    go_wp2_with fail
    refine c9.mono ?_
    rintro e u9 ⟨x, rfl, hU9⟩
    have hU10 := hU9.pull2
    clear c9 hU9
    have hst9 := run_storeAt_row (P := Tryz.prog) (o := 0) (ty := 47) (v := .agg #[.bool vb0, .int .i64 vc0]) hU10.heap (by kernel_rfl) (by simp [Value.cells]) (by simp [Value.cells, Value.oneCell'])
    have hR9 := hU10.setRow (cs := #[.bool vb0, .int .i64 vc0])
    simp only [Value.cells] at hst9
    rw [show splice (#[.bool false, .int .i64 0] : Array Value) 0 (#[.bool vb0, .int .i64 vc0] : Array Value).toList = #[.bool vb0, .int .i64 vc0] by rfl] at hst9
    have hl9 : (Instr.loadAt 47 (.pointer (some ⟨pb + 1, 0, none⟩))).run Tryz.prog (u9.setRow (pb + 1) #[.bool vb0, .int .i64 vc0]) = .ok (.agg #[.bool vb0, .int .i64 vc0]) (u9.setRow (pb + 1) #[.bool vb0, .int .i64 vc0]) :=
      run_loadAt_row (cs := [.bool vb0, .int .i64 vc0]) hR9.heap Tryz.underlying47 rfl (by kernel_rfl) (fun j u hu => by simpa using hu)
    have HX := Lib.hid ((hR9.to (by ac_rfl : _ = blk (pb + 1) (.cells #[.bool vb0, .int .i64 vc0] 47) • blk pb (.cells PK 44) • blk tb (.cells TU 39) • blk mb (.cells #[.int .i64 0, .bool false, .int .i64 0, .int .i64 0, .int .i64 0, .slice none 0 0, .slice none 0 0, .slice none 0 0, .slice none 0 0] 219) • (Q x • F))).drop.drop.drop.drop)
    clear hU10 hR9
    go_wp2_with (refine wpList_store_run (t := 47) rfl rfl rfl rfl hst9 (stop_ ?_))
    unfold Stop
    go_wp2_with fail
    refine ret_cell rfl rfl hl9 rfl ⟨x, rfl, HX.out⟩
  · have hA := (hSd.alloc (.cells FZ 149)).to (by ac_rfl : _ = fltab fl room R next • blk tb (.cells TU 39) • blk fw (.cells #[.pointer (some ⟨pol, 0, none⟩), .pointer (some ⟨ck, 0, none⟩), .pointer (some ⟨pd, 0, none⟩), .pointer (some ⟨st, 0, none⟩), .pointer (some ⟨fc, 0, none⟩), .pointer (some ⟨fl, 0, none⟩), .int .i64 1, .int .i64 1, .int .i64 1, .int .i64 k] 73) • (blk W0.heap.size (.cells FZ 149) • (blk mb (.cells #[.int .i64 0, .bool false, .int .i64 0, .int .i64 0, .int .i64 0, .slice none 0 0, .slice none 0 0, .slice none 0 0, .slice none 0 0] 219) • blk (pb + 1) (.cells #[.bool false, .int .i64 0] 47) • blk pb (.cells PK 44) • blk ck (.cells #[.int .u64 0] 105) • policyH pol • F)))
    refine fork_act rfl rfl (fun K' hK => wp_alloc_run rfl hz (hK _ _ ⟨hA.pull3.heap, hA.pull2.heap⟩ ?_))
    clear hK K'
    go_simp
    refine tree_leaf ?_
    refine ord_acts rfl rfl (fun K' hK => ?_)
    go_simp
    refine (cg _ _ (hA)).mono ?_
    rintro e u3 ⟨rfl, hU3⟩
    refine hK _ _ ⟨hU3.pull3.heap, hU3.pull2.heap⟩ ?_
    clear hK K'
    go_simp
    iterate 3 (refine ord_pure rfl rfl rfl (fun K' hK => ?_); go_big_quiet_op; refine hK _ ?_; clear hK K')
    have hR := (hU3.to (by ac_rfl : _ = blk W0.heap.size (.cells FZ 149) • (blk tb (.cells TU 39) • (blk fw (.cells #[.pointer (some ⟨pol, 0, none⟩), .pointer (some ⟨ck, 0, none⟩), .pointer (some ⟨pd, 0, none⟩), .pointer (some ⟨st, 0, none⟩), .pointer (some ⟨fc, 0, none⟩), .pointer (some ⟨fl, 0, none⟩), .int .i64 1, .int .i64 1, .int .i64 1, .int .i64 k] 73) • fltab fl room R next • (blk mb (.cells #[.int .i64 0, .bool false, .int .i64 0, .int .i64 0, .int .i64 0, .slice none 0 0, .slice none 0 0, .slice none 0 0, .slice none 0 0] 219) • blk (pb + 1) (.cells #[.bool false, .int .i64 0] 47) • blk pb (.cells PK 44) • blk ck (.cells #[.int .u64 0] 105) • policyH pol • F)))))
    have hst2 := run_storeAt_row (P := Tryz.prog) (o := 0) (ty := 149) (v := .agg FE) hR.heap (by simp only [Value.cells]; rw [hFEs]; kernel_rfl) (by simp only [Value.cells]; omega) hFEo
    have hR2 := hR.setRow (cs := FE)
    simp only [Value.cells] at hst2
    rw [splice_full (by simp only [Array.length_toList, hFEs, hFZs]), show FE.toList.toArray = FE by simp] at hst2
    refine ord_store rfl rfl rfl rfl (p := .pointer (some ⟨W0.heap.size, 0, none⟩)) (v := .agg FE) rfl rfl hst2 (fun _ => True) trivial ?_
    go_simp
    iterate 1 (refine ord_pure rfl rfl rfl (fun K' hK => ?_); go_big_quiet_op; refine hK _ ?_; clear hK K')
    refine ord_nil ?_
    have hT := hR2.drop
    clear hU3 cg hz hst hst2 hR hR2 hA hSd
    generalize u3.setRow W0.heap.size FE = U3 at *
    have hlP := hPK _ _ (hT.to (by ac_rfl : _ = blk pb (.cells PK 44) • (blk tb (.cells TU 39) • blk mb (.cells #[.int .i64 0, .bool false, .int .i64 0, .int .i64 0, .int .i64 0, .slice none 0 0, .slice none 0 0, .slice none 0 0, .slice none 0 0] 219) • blk (pb + 1) (.cells #[.bool false, .int .i64 0] 47) • (blk fw (.cells #[.pointer (some ⟨pol, 0, none⟩), .pointer (some ⟨ck, 0, none⟩), .pointer (some ⟨pd, 0, none⟩), .pointer (some ⟨st, 0, none⟩), .pointer (some ⟨fc, 0, none⟩), .pointer (some ⟨fl, 0, none⟩), .int .i64 1, .int .i64 1, .int .i64 1, .int .i64 k] 73) • blk ck (.cells #[.int .u64 0] 105) • policyH pol • fltab fl room R next • F)))).heap
    have hlM : (Instr.loadAt 219 (.pointer (some ⟨mb, 0, none⟩))).run Tryz.prog U3 = .ok (.agg #[.int .i64 0, .bool false, .int .i64 0, .int .i64 0, .int .i64 0, .slice none 0 0, .slice none 0 0, .slice none 0 0, .slice none 0 0]) U3 :=
      run_loadAt_row (cs := [.int .i64 0, .bool false, .int .i64 0, .int .i64 0, .int .i64 0, .slice none 0 0, .slice none 0 0, .slice none 0 0, .slice none 0 0]) (hT.to (by ac_rfl : _ = blk mb (.cells #[.int .i64 0, .bool false, .int .i64 0, .int .i64 0, .int .i64 0, .slice none 0 0, .slice none 0 0, .slice none 0 0, .slice none 0 0] 219) • (blk tb (.cells TU 39) • blk pb (.cells PK 44) • blk (pb + 1) (.cells #[.bool false, .int .i64 0] 47) • (blk fw (.cells #[.pointer (some ⟨pol, 0, none⟩), .pointer (some ⟨ck, 0, none⟩), .pointer (some ⟨pd, 0, none⟩), .pointer (some ⟨st, 0, none⟩), .pointer (some ⟨fc, 0, none⟩), .pointer (some ⟨fl, 0, none⟩), .int .i64 1, .int .i64 1, .int .i64 1, .int .i64 k] 73) • blk ck (.cells #[.int .u64 0] 105) • policyH pol • fltab fl room R next • F)))).heap Tryz.underlying219 rfl (by kernel_rfl) (fun j u hu => by simpa using hu)
    have hT2 := hT.to (by ac_rfl : _ = blk fw (.cells #[.pointer (some ⟨pol, 0, none⟩), .pointer (some ⟨ck, 0, none⟩), .pointer (some ⟨pd, 0, none⟩), .pointer (some ⟨st, 0, none⟩), .pointer (some ⟨fc, 0, none⟩), .pointer (some ⟨fl, 0, none⟩), .int .i64 1, .int .i64 1, .int .i64 1, .int .i64 k] 73) • blk ck (.cells #[.int .u64 0] 105) • policyH pol • fltab fl room R next • (blk (pb + 1) (.cells #[.bool false, .int .i64 0] 47) • (blk pb (.cells PK 44) • blk tb (.cells TU 39) • blk mb (.cells #[.int .i64 0, .bool false, .int .i64 0, .int .i64 0, .int .i64 0, .slice none 0 0, .slice none 0 0, .slice none 0 0, .slice none 0 0] 219) • F)))
    have c9 := hco U3 _ hT2
    clear hT hT2
    go_wp2_with (first | (refine wpList_load_run (t := 44) rfl rfl rfl hlP ?_) | (refine wpList_load_run (t := 219) rfl rfl rfl hlM (stop_ ?_)))
    unfold Stop
    clear hlP hlM
    go_wp2_with fail
    refine c9.mono ?_
    rintro e u9 ⟨x, rfl, hU9⟩
    have hU10 := hU9.pull2
    clear c9 hU9
    have hst9 := run_storeAt_row (P := Tryz.prog) (o := 0) (ty := 47) (v := .agg #[.bool vb0, .int .i64 vc0]) hU10.heap (by kernel_rfl) (by simp [Value.cells]) (by simp [Value.cells, Value.oneCell'])
    have hR9 := hU10.setRow (cs := #[.bool vb0, .int .i64 vc0])
    simp only [Value.cells] at hst9
    rw [show splice (#[.bool false, .int .i64 0] : Array Value) 0 (#[.bool vb0, .int .i64 vc0] : Array Value).toList = #[.bool vb0, .int .i64 vc0] by rfl] at hst9
    have hl9 : (Instr.loadAt 47 (.pointer (some ⟨pb + 1, 0, none⟩))).run Tryz.prog (u9.setRow (pb + 1) #[.bool vb0, .int .i64 vc0]) = .ok (.agg #[.bool vb0, .int .i64 vc0]) (u9.setRow (pb + 1) #[.bool vb0, .int .i64 vc0]) :=
      run_loadAt_row (cs := [.bool vb0, .int .i64 vc0]) hR9.heap Tryz.underlying47 rfl (by kernel_rfl) (fun j u hu => by simpa using hu)
    have HX := Lib.hid ((hR9.to (by ac_rfl : _ = blk (pb + 1) (.cells #[.bool vb0, .int .i64 vc0] 47) • blk pb (.cells PK 44) • blk tb (.cells TU 39) • blk mb (.cells #[.int .i64 0, .bool false, .int .i64 0, .int .i64 0, .int .i64 0, .slice none 0 0, .slice none 0 0, .slice none 0 0, .slice none 0 0] 219) • (Q x • F))).drop.drop.drop.drop)
    clear hU10 hR9
    go_wp2_with (refine wpList_store_run (t := 47) rfl rfl rfl rfl hst9 (stop_ ?_))
    unfold Stop
    go_wp2_with fail
    refine ret_cell rfl rfl hl9 rfl ⟨x, rfl, HX.out⟩

set_option maxRecDepth 8000 in
set_option maxHeartbeats 16000000 in
theorem out_fresh {B : Nat} {w0 w : World} {F : HP} {fw pol ck pd st fc fl room : Nat} {k next : Int} {R : List FIt} {Q : Nat → HP} {vb0 : Bool} {vc0 : Int} (p : Int) (A : Option Addr) (d : Nat) (hB : 1 < B) (hE : Et w0) (hg : getV R (tuT p) = .tuple #[.agg zFlw.enc.toArray, .bool false])
    (hcon : ∀ A d W G, Sat B w0 W (blk fw (fwB pol ck pd st fc fl k) • blk ck (.cells #[.int .u64 0] 105) • policyH pol • fltab fl room R next • G) → Calls Tryz.prog 94 #[.pointer (some ⟨fw, 0, none⟩), .agg (pkP p A d).toArray, .agg #[.int .i64 0, .bool false, .int .i64 0, .int .i64 0, .int .i64 0, .slice none 0 0, .slice none 0 0, .slice none 0 0, .slice none 0 0], .bool false] W fun e w' => ∃ x, e = .returned (.agg #[.bool vb0, .int .i64 vc0]) ∧ Sat B w0 w' (Q x • G))
    (h : Sat B w0 w (blk fw (fwB pol ck pd st fc fl k) • blk ck (.cells #[.int .u64 0] 105) • policyH pol • fltab fl room R next • F)) : Calls Tryz.prog 43 #[.pointer (some ⟨fw, 0, none⟩), .agg (pkP p A d).toArray] w fun e w' => ∃ x, e = .returned (.agg #[.bool vb0, .int .i64 vc0]) ∧ Sat B w0 w' (Q x • F) := by
  have hS0 := (h.alloc (.cells (pkP p A d).toArray 44)).alloc (.cells #[.bool false, .int .i64 0] 47)
  have hS1 := hS0.alloc (.cells (tuC p).toArray 39)
  simp only [World.size_alloc] at hS0 hS1
  have hlp : (Instr.loadAt 39 (.pointer (some ⟨w.heap.size, 0, none⟩))).run Tryz.prog ((w.alloc (.cells (pkP p A d).toArray 44)).alloc (.cells #[.bool false, .int .i64 0] 47)) = .ok (.agg (tuC p).toArray) ((w.alloc (.cells (pkP p A d).toArray 44)).alloc (.cells #[.bool false, .int .i64 0] 47)) :=
    run_loadAt_row (cs := tuC p) hS0.pull2.heap Tryz.underlying39 rfl (by rw [tuC_len]; kernel_rfl) (fun j u hu => by rw [Nat.zero_add]; exact pkP_tu p A d j u hu)
  have hst0 : ∀ z : Array Value, z.size = 37 → (Instr.storeAt 39 (.pointer (some ⟨w.heap.size + 1 + 1, 0, none⟩)) (.agg (tuC p).toArray)).run Tryz.prog (((w.alloc (.cells (pkP p A d).toArray 44)).alloc (.cells #[.bool false, .int .i64 0] 47)).alloc (.cells z 39)) = .ok () (((w.alloc (.cells (pkP p A d).toArray 44)).alloc (.cells #[.bool false, .int .i64 0] 47)).alloc (.cells (tuC p).toArray 39)) := fun z hz => by
    have hh := run_storeAt_new (P := Tryz.prog) (w := (w.alloc (.cells (pkP p A d).toArray 44)).alloc (.cells #[.bool false, .int .i64 0] 47)) (ty := 39) (t := 39) (z := z) (v := .agg (tuC p).toArray) (by kernel_rfl) (by rw [hz]; rfl) (by simpa [Value.cells] using tuC_one p)
    simp only [World.size_alloc] at hh
    exact hh
  have hTU : ∀ (b : Nat) (V : World), V.heap[b]? = some (.cells (tuC p).toArray 39) → (Instr.loadAt 39 (.pointer (some ⟨b, 0, none⟩))).run Tryz.prog V = .ok (.agg (tuC p).toArray) V ∧ V.cell? ⟨b, 34, none⟩ = some (.int .i64 17) := fun b V hV =>
    ⟨run_loadAt_row (cs := tuC p) hV Tryz.underlying39 rfl (by rw [tuC_len]; kernel_rfl) (fun j u hu => by simpa using hu), cell_heap hV rfl⟩
  have hPK : ∀ (b : Nat) (V : World), V.heap[b]? = some (.cells (pkP p A d).toArray 44) → (Instr.loadAt 44 (.pointer (some ⟨b, 0, none⟩))).run Tryz.prog V = .ok (.agg (pkP p A d).toArray) V := fun b V hV =>
    run_loadAt_row (cs := pkP p A d) hV Tryz.underlying44 rfl (by rw [pkP_len]; kernel_rfl) (fun j u hu => by simpa using hu)
  have d40 : (((w.alloc (.cells (pkP p A d).toArray 44)).alloc (.cells #[.bool false, .int .i64 0] 47)).alloc (.cells (tuC p).toArray 39)).cell? ⟨w.heap.size, 40, none⟩ = some (.int .i64 0) := cell_heap hS1.pull3.heap rfl
  have dp79 : (pkP p A d).toArray[79]? = some (.slice A 0 d) := rfl
  have cg := fun (W : World) (G : HP) (hW : Sat B w0 W (fltab fl room R next • G)) => flGet_any hW (tuT p)
  rw [hg, tuT_enc] at cg
  have hz : (Tryz.prog.info? 149).map (·.zero) = some (some (.agg zFlw.enc.toArray)) := by kernel_rfl
  have hst := fun W : World => flw_storeN zFlw W zFlw.enc.toArray rfl
  have hFZs : zFlw.enc.toArray.size = 40 := by rw [List.size_toArray, Flw.enc_length]
  have hFZo : ∀ u ∈ (Value.agg zFlw.enc.toArray).cells.toList, u.oneCell' = true := by simpa [Value.cells] using zFlw.enc_one
  have hstM : ∀ W : World, ∀ z : Array Value, z.size = 9 → (Instr.storeAt 219 (.pointer (some ⟨W.heap.size, 0, none⟩)) (.agg #[.int .i64 0, .bool false, .int .i64 0, .int .i64 0, .int .i64 0, .slice none 0 0, .slice none 0 0, .slice none 0 0, .slice none 0 0])).run Tryz.prog (W.alloc (.cells z 219)) = .ok () (W.alloc (.cells #[.int .i64 0, .bool false, .int .i64 0, .int .i64 0, .int .i64 0, .slice none 0 0, .slice none 0 0, .slice none 0 0, .slice none 0 0] 219)) :=
    fun W z hz => run_storeAt_new (v := .agg #[.int .i64 0, .bool false, .int .i64 0, .int .i64 0, .int .i64 0, .slice none 0 0, .slice none 0 0, .slice none 0 0, .slice none 0 0]) (by kernel_rfl) (by rw [hz]; rfl) (by simp [Value.cells, Value.oneCell'])
  have cs := server_no fw p
  have hco := hcon A d
  unfold fwB at *
  skip
  generalize hFZ : zFlw.enc.toArray = FZ at *
  generalize (tuC p).toArray = TU at *
  clear hcon
  generalize (pkP p A d).toArray = PK at *
  generalize hpb : w.heap.size = pb at *
  clear h hg hS0 hFZ
  go_enter Tryz.func43, Tryz.ntmps43
  go_wp2_with (first | (refine wpList_load_run (t := 39) rfl rfl rfl hlp ?_) | (refine wpList_store_run (t := 39) rfl rfl rfl rfl (hst0 _ rfl) (stop_ ?_)))
  unfold Stop
  clear hlp hst0
  have hl1 := (hTU _ _ hS1.heap).1
  go_wp2_with (refine wpList_load_run (t := 39) rfl rfl rfl hl1 (stop_ ?_))
  unfold Stop
  clear hl1 d40
  go_wp2_with fail
  refine (cs _).mono ?_
  rintro e u4 ⟨rfl, hb4⟩
  have hS4 := hS1.below_ hb4
  have d79 : u4.cell? ⟨pb, 79, none⟩ = some (.slice A 0 d) := cell_heap hS4.pull3.heap dp79
  have c5 := msg_empty A d hB hE hS4
  clear hS1 hb4 hS4
  go_wp2_with fail
  refine c5.mono ?_
  rintro e u5 ⟨rfl, hS5⟩
  have hS6 := hS5.alloc (.cells #[.int .i64 0, .bool false, .int .i64 0, .int .i64 0, .int .i64 0, .slice none 0 0, .slice none 0 0, .slice none 0 0, .slice none 0 0] 219)
  have hst6 := hstM u5
  clear c5 d79 hS5
  go_wp2_with (refine wpList_store_run (t := 219) rfl rfl rfl rfl (hst6 _ rfl) (stop_ ?_))
  unfold Stop
  generalize htb : pb + 1 + 1 = tb at *
  generalize hmb : u5.heap.size = mb at *
  generalize hu8 : u5.alloc (.cells #[.int .i64 0, .bool false, .int .i64 0, .int .i64 0, .int .i64 0, .slice none 0 0, .slice none 0 0, .slice none 0 0, .slice none 0 0] 219) = u8 at *
  have hS8 := hS6.to (by ac_rfl : _ = fltab fl room R next • blk tb (.cells TU 39) • blk fw (.cells #[.pointer (some ⟨pol, 0, none⟩), .pointer (some ⟨ck, 0, none⟩), .pointer (some ⟨pd, 0, none⟩), .pointer (some ⟨st, 0, none⟩), .pointer (some ⟨fc, 0, none⟩), .pointer (some ⟨fl, 0, none⟩), .int .i64 1, .int .i64 1, .int .i64 1, .int .i64 k] 73) • (blk mb (.cells #[.int .i64 0, .bool false, .int .i64 0, .int .i64 0, .int .i64 0, .slice none 0 0, .slice none 0 0, .slice none 0 0, .slice none 0 0] 219) • blk (pb + 1) (.cells #[.bool false, .int .i64 0] 47) • blk pb (.cells PK 44) • blk ck (.cells #[.int .u64 0] 105) • policyH pol • F))
  clear hS6 hst6 hstM
  go_wp2_with fail
  try go_frame
  refine wp_region_tree (.two [(0, .pure), (1, .pure), (2, .pure), (3, .quiet), (4, .quiet)] 5 (.leaf [(6, .pure), (7, .pure), (8, .pure), (9, .acts), (10, .seals), (11, .pure)]) 9 (.leaf [(5, .acts), (6, .pure), (7, .pure), (8, .pure), (10, .seals), (11, .pure)])) [10] (by kernel_rfl) (by kernel_rfl) (fun w' => w'.heap[fw]? = some (.cells #[.pointer (some ⟨pol, 0, none⟩), .pointer (some ⟨ck, 0, none⟩), .pointer (some ⟨pd, 0, none⟩), .pointer (some ⟨st, 0, none⟩), .pointer (some ⟨fc, 0, none⟩), .pointer (some ⟨fl, 0, none⟩), .int .i64 1, .int .i64 1, .int .i64 1, .int .i64 k] 73) ∧ w'.heap[tb]? = some (.cells TU 39)) ⟨hS8.drew.pull3.heap, hS8.drew.pull2.heap⟩ ?_
  have hSd := hS8.drew
  generalize u8.drew = W0 at *
  clear hS8
  refine tree_two ?_
  iterate 3 (refine ord_pure rfl rfl rfl (fun K' hK => ?_); go_big_quiet_op; refine hK _ ?_; clear hK K')
  refine ord_load (t := 70) rfl rfl rfl (p := .pointer (some ⟨fw, 5, none⟩)) (v := .pointer (some ⟨fl, 0, none⟩)) rfl (fun w' hC => run_loadAt_one hC.1 Tryz.underlying70 rfl rfl) (fun K' hK => ?_)
  go_simp
  refine hK _ ?_
  clear hK K'
  refine ord_load (t := 39) rfl rfl rfl (p := .pointer (some ⟨tb, 0, none⟩)) (v := .agg TU) rfl (fun w' hC => (hTU _ _ hC.2).1) (fun K' hK => ?_)
  go_simp
  refine hK _ ?_
  clear hK K'
  refine ord_nil ?_
  refine ⟨?_, ?_⟩
  · refine fork_act rfl rfl (fun K' hK => ?_)
    go_simp
    refine (cg _ _ (hSd)).mono ?_
    rintro e u3 ⟨rfl, hU3⟩
    refine hK _ _ ⟨hU3.pull3.heap, hU3.pull2.heap⟩ ?_
    clear hK K'
    go_simp
    refine tree_leaf ?_
    iterate 3 (refine ord_pure rfl rfl rfl (fun K' hK => ?_); go_big_quiet_op; refine hK _ ?_; clear hK K')
    refine ord_acts rfl rfl (fun K' hK => wp_alloc_run rfl hz (hK _ _ ⟨(hU3.alloc_ _).pull3.heap, (hU3.alloc_ _).pull2.heap⟩ ?_))
    clear hK K'
    go_simp
    refine ord_store rfl rfl rfl rfl (p := .pointer (some ⟨u3.heap.size, 0, none⟩)) (v := .agg FZ) rfl rfl (hst u3) (fun _ => True) trivial ?_
    go_simp
    iterate 1 (refine ord_pure rfl rfl rfl (fun K' hK => ?_); go_big_quiet_op; refine hK _ ?_; clear hK K')
    refine ord_nil ?_
    have hT := (hU3.to (by ac_rfl : _ = blk tb (.cells TU 39) • (blk fw (.cells #[.pointer (some ⟨pol, 0, none⟩), .pointer (some ⟨ck, 0, none⟩), .pointer (some ⟨pd, 0, none⟩), .pointer (some ⟨st, 0, none⟩), .pointer (some ⟨fc, 0, none⟩), .pointer (some ⟨fl, 0, none⟩), .int .i64 1, .int .i64 1, .int .i64 1, .int .i64 k] 73) • fltab fl room R next • (blk mb (.cells #[.int .i64 0, .bool false, .int .i64 0, .int .i64 0, .int .i64 0, .slice none 0 0, .slice none 0 0, .slice none 0 0, .slice none 0 0] 219) • blk (pb + 1) (.cells #[.bool false, .int .i64 0] 47) • blk pb (.cells PK 44) • blk ck (.cells #[.int .u64 0] 105) • policyH pol • F)))).alloc_ (.cells FZ 149)
    clear hU3 cg hz hst hSd
    generalize u3.alloc (.cells FZ 149) = U3 at *
    have hlP := hPK _ _ (hT.to (by ac_rfl : _ = blk pb (.cells PK 44) • (blk tb (.cells TU 39) • blk mb (.cells #[.int .i64 0, .bool false, .int .i64 0, .int .i64 0, .int .i64 0, .slice none 0 0, .slice none 0 0, .slice none 0 0, .slice none 0 0] 219) • blk (pb + 1) (.cells #[.bool false, .int .i64 0] 47) • (blk fw (.cells #[.pointer (some ⟨pol, 0, none⟩), .pointer (some ⟨ck, 0, none⟩), .pointer (some ⟨pd, 0, none⟩), .pointer (some ⟨st, 0, none⟩), .pointer (some ⟨fc, 0, none⟩), .pointer (some ⟨fl, 0, none⟩), .int .i64 1, .int .i64 1, .int .i64 1, .int .i64 k] 73) • blk ck (.cells #[.int .u64 0] 105) • policyH pol • fltab fl room R next • F)))).heap
    have hlM : (Instr.loadAt 219 (.pointer (some ⟨mb, 0, none⟩))).run Tryz.prog U3 = .ok (.agg #[.int .i64 0, .bool false, .int .i64 0, .int .i64 0, .int .i64 0, .slice none 0 0, .slice none 0 0, .slice none 0 0, .slice none 0 0]) U3 :=
      run_loadAt_row (cs := [.int .i64 0, .bool false, .int .i64 0, .int .i64 0, .int .i64 0, .slice none 0 0, .slice none 0 0, .slice none 0 0, .slice none 0 0]) (hT.to (by ac_rfl : _ = blk mb (.cells #[.int .i64 0, .bool false, .int .i64 0, .int .i64 0, .int .i64 0, .slice none 0 0, .slice none 0 0, .slice none 0 0, .slice none 0 0] 219) • (blk tb (.cells TU 39) • blk pb (.cells PK 44) • blk (pb + 1) (.cells #[.bool false, .int .i64 0] 47) • (blk fw (.cells #[.pointer (some ⟨pol, 0, none⟩), .pointer (some ⟨ck, 0, none⟩), .pointer (some ⟨pd, 0, none⟩), .pointer (some ⟨st, 0, none⟩), .pointer (some ⟨fc, 0, none⟩), .pointer (some ⟨fl, 0, none⟩), .int .i64 1, .int .i64 1, .int .i64 1, .int .i64 k] 73) • blk ck (.cells #[.int .u64 0] 105) • policyH pol • fltab fl room R next • F)))).heap Tryz.underlying219 rfl (by kernel_rfl) (fun j u hu => by simpa using hu)
    have hT2 := hT.to (by ac_rfl : _ = blk fw (.cells #[.pointer (some ⟨pol, 0, none⟩), .pointer (some ⟨ck, 0, none⟩), .pointer (some ⟨pd, 0, none⟩), .pointer (some ⟨st, 0, none⟩), .pointer (some ⟨fc, 0, none⟩), .pointer (some ⟨fl, 0, none⟩), .int .i64 1, .int .i64 1, .int .i64 1, .int .i64 k] 73) • blk ck (.cells #[.int .u64 0] 105) • policyH pol • fltab fl room R next • (blk (pb + 1) (.cells #[.bool false, .int .i64 0] 47) • (blk pb (.cells PK 44) • blk tb (.cells TU 39) • blk mb (.cells #[.int .i64 0, .bool false, .int .i64 0, .int .i64 0, .int .i64 0, .slice none 0 0, .slice none 0 0, .slice none 0 0, .slice none 0 0] 219) • F)))
    have c9 := hco U3 _ hT2
    clear hT hT2
    go_wp2_with (first | (refine wpList_load_run (t := 44) rfl rfl rfl hlP ?_) | (refine wpList_load_run (t := 219) rfl rfl rfl hlM (stop_ ?_)))
    unfold Stop
    clear hlP hlM
    go_wp2_with fail
    refine c9.mono ?_
    rintro e u9 ⟨x, rfl, hU9⟩
    have hU10 := hU9.pull2
    clear c9 hU9
    have hst9 := run_storeAt_row (P := Tryz.prog) (o := 0) (ty := 47) (v := .agg #[.bool vb0, .int .i64 vc0]) hU10.heap (by kernel_rfl) (by simp [Value.cells]) (by simp [Value.cells, Value.oneCell'])
    have hR9 := hU10.setRow (cs := #[.bool vb0, .int .i64 vc0])
    simp only [Value.cells] at hst9
    rw [show splice (#[.bool false, .int .i64 0] : Array Value) 0 (#[.bool vb0, .int .i64 vc0] : Array Value).toList = #[.bool vb0, .int .i64 vc0] by rfl] at hst9
    have hl9 : (Instr.loadAt 47 (.pointer (some ⟨pb + 1, 0, none⟩))).run Tryz.prog (u9.setRow (pb + 1) #[.bool vb0, .int .i64 vc0]) = .ok (.agg #[.bool vb0, .int .i64 vc0]) (u9.setRow (pb + 1) #[.bool vb0, .int .i64 vc0]) :=
      run_loadAt_row (cs := [.bool vb0, .int .i64 vc0]) hR9.heap Tryz.underlying47 rfl (by kernel_rfl) (fun j u hu => by simpa using hu)
    have HX := Lib.hid ((hR9.to (by ac_rfl : _ = blk (pb + 1) (.cells #[.bool vb0, .int .i64 vc0] 47) • blk pb (.cells PK 44) • blk tb (.cells TU 39) • blk mb (.cells #[.int .i64 0, .bool false, .int .i64 0, .int .i64 0, .int .i64 0, .slice none 0 0, .slice none 0 0, .slice none 0 0, .slice none 0 0] 219) • (Q x • F))).drop.drop.drop.drop)
    clear hU10 hR9
    go_wp2_with (refine wpList_store_run (t := 47) rfl rfl rfl rfl hst9 (stop_ ?_))
    unfold Stop
    go_wp2_with fail
    refine ret_cell rfl rfl hl9 rfl ⟨x, rfl, HX.out⟩
  · have hA := (hSd.alloc (.cells FZ 149)).to (by ac_rfl : _ = fltab fl room R next • blk tb (.cells TU 39) • blk fw (.cells #[.pointer (some ⟨pol, 0, none⟩), .pointer (some ⟨ck, 0, none⟩), .pointer (some ⟨pd, 0, none⟩), .pointer (some ⟨st, 0, none⟩), .pointer (some ⟨fc, 0, none⟩), .pointer (some ⟨fl, 0, none⟩), .int .i64 1, .int .i64 1, .int .i64 1, .int .i64 k] 73) • (blk W0.heap.size (.cells FZ 149) • (blk mb (.cells #[.int .i64 0, .bool false, .int .i64 0, .int .i64 0, .int .i64 0, .slice none 0 0, .slice none 0 0, .slice none 0 0, .slice none 0 0] 219) • blk (pb + 1) (.cells #[.bool false, .int .i64 0] 47) • blk pb (.cells PK 44) • blk ck (.cells #[.int .u64 0] 105) • policyH pol • F)))
    refine fork_act rfl rfl (fun K' hK => wp_alloc_run rfl hz (hK _ _ ⟨hA.pull3.heap, hA.pull2.heap⟩ ?_))
    clear hK K'
    go_simp
    refine tree_leaf ?_
    refine ord_acts rfl rfl (fun K' hK => ?_)
    go_simp
    refine (cg _ _ (hA)).mono ?_
    rintro e u3 ⟨rfl, hU3⟩
    refine hK _ _ ⟨hU3.pull3.heap, hU3.pull2.heap⟩ ?_
    clear hK K'
    go_simp
    iterate 3 (refine ord_pure rfl rfl rfl (fun K' hK => ?_); go_big_quiet_op; refine hK _ ?_; clear hK K')
    have hR := (hU3.to (by ac_rfl : _ = blk W0.heap.size (.cells FZ 149) • (blk tb (.cells TU 39) • (blk fw (.cells #[.pointer (some ⟨pol, 0, none⟩), .pointer (some ⟨ck, 0, none⟩), .pointer (some ⟨pd, 0, none⟩), .pointer (some ⟨st, 0, none⟩), .pointer (some ⟨fc, 0, none⟩), .pointer (some ⟨fl, 0, none⟩), .int .i64 1, .int .i64 1, .int .i64 1, .int .i64 k] 73) • fltab fl room R next • (blk mb (.cells #[.int .i64 0, .bool false, .int .i64 0, .int .i64 0, .int .i64 0, .slice none 0 0, .slice none 0 0, .slice none 0 0, .slice none 0 0] 219) • blk (pb + 1) (.cells #[.bool false, .int .i64 0] 47) • blk pb (.cells PK 44) • blk ck (.cells #[.int .u64 0] 105) • policyH pol • F)))))
    have hst2 := run_storeAt_row (P := Tryz.prog) (o := 0) (ty := 149) (v := .agg FZ) hR.heap (by simp only [Value.cells]; rw [hFZs]; kernel_rfl) (by simp only [Value.cells]; omega) hFZo
    have hR2 := hR.setRow (cs := FZ)
    simp only [Value.cells] at hst2
    rw [splice_full (by simp only [Array.length_toList, hFZs]), show FZ.toList.toArray = FZ by simp] at hst2
    refine ord_store rfl rfl rfl rfl (p := .pointer (some ⟨W0.heap.size, 0, none⟩)) (v := .agg FZ) rfl rfl hst2 (fun _ => True) trivial ?_
    go_simp
    iterate 1 (refine ord_pure rfl rfl rfl (fun K' hK => ?_); go_big_quiet_op; refine hK _ ?_; clear hK K')
    refine ord_nil ?_
    have hT := hR2.drop
    clear hU3 cg hz hst hst2 hR hR2 hA hSd
    generalize u3.setRow W0.heap.size FZ = U3 at *
    have hlP := hPK _ _ (hT.to (by ac_rfl : _ = blk pb (.cells PK 44) • (blk tb (.cells TU 39) • blk mb (.cells #[.int .i64 0, .bool false, .int .i64 0, .int .i64 0, .int .i64 0, .slice none 0 0, .slice none 0 0, .slice none 0 0, .slice none 0 0] 219) • blk (pb + 1) (.cells #[.bool false, .int .i64 0] 47) • (blk fw (.cells #[.pointer (some ⟨pol, 0, none⟩), .pointer (some ⟨ck, 0, none⟩), .pointer (some ⟨pd, 0, none⟩), .pointer (some ⟨st, 0, none⟩), .pointer (some ⟨fc, 0, none⟩), .pointer (some ⟨fl, 0, none⟩), .int .i64 1, .int .i64 1, .int .i64 1, .int .i64 k] 73) • blk ck (.cells #[.int .u64 0] 105) • policyH pol • fltab fl room R next • F)))).heap
    have hlM : (Instr.loadAt 219 (.pointer (some ⟨mb, 0, none⟩))).run Tryz.prog U3 = .ok (.agg #[.int .i64 0, .bool false, .int .i64 0, .int .i64 0, .int .i64 0, .slice none 0 0, .slice none 0 0, .slice none 0 0, .slice none 0 0]) U3 :=
      run_loadAt_row (cs := [.int .i64 0, .bool false, .int .i64 0, .int .i64 0, .int .i64 0, .slice none 0 0, .slice none 0 0, .slice none 0 0, .slice none 0 0]) (hT.to (by ac_rfl : _ = blk mb (.cells #[.int .i64 0, .bool false, .int .i64 0, .int .i64 0, .int .i64 0, .slice none 0 0, .slice none 0 0, .slice none 0 0, .slice none 0 0] 219) • (blk tb (.cells TU 39) • blk pb (.cells PK 44) • blk (pb + 1) (.cells #[.bool false, .int .i64 0] 47) • (blk fw (.cells #[.pointer (some ⟨pol, 0, none⟩), .pointer (some ⟨ck, 0, none⟩), .pointer (some ⟨pd, 0, none⟩), .pointer (some ⟨st, 0, none⟩), .pointer (some ⟨fc, 0, none⟩), .pointer (some ⟨fl, 0, none⟩), .int .i64 1, .int .i64 1, .int .i64 1, .int .i64 k] 73) • blk ck (.cells #[.int .u64 0] 105) • policyH pol • fltab fl room R next • F)))).heap Tryz.underlying219 rfl (by kernel_rfl) (fun j u hu => by simpa using hu)
    have hT2 := hT.to (by ac_rfl : _ = blk fw (.cells #[.pointer (some ⟨pol, 0, none⟩), .pointer (some ⟨ck, 0, none⟩), .pointer (some ⟨pd, 0, none⟩), .pointer (some ⟨st, 0, none⟩), .pointer (some ⟨fc, 0, none⟩), .pointer (some ⟨fl, 0, none⟩), .int .i64 1, .int .i64 1, .int .i64 1, .int .i64 k] 73) • blk ck (.cells #[.int .u64 0] 105) • policyH pol • fltab fl room R next • (blk (pb + 1) (.cells #[.bool false, .int .i64 0] 47) • (blk pb (.cells PK 44) • blk tb (.cells TU 39) • blk mb (.cells #[.int .i64 0, .bool false, .int .i64 0, .int .i64 0, .int .i64 0, .slice none 0 0, .slice none 0 0, .slice none 0 0, .slice none 0 0] 219) • F)))
    have c9 := hco U3 _ hT2
    clear hT hT2
    go_wp2_with (first | (refine wpList_load_run (t := 44) rfl rfl rfl hlP ?_) | (refine wpList_load_run (t := 219) rfl rfl rfl hlM (stop_ ?_)))
    unfold Stop
    clear hlP hlM
    go_wp2_with fail
    refine c9.mono ?_
    rintro e u9 ⟨x, rfl, hU9⟩
    have hU10 := hU9.pull2
    clear c9 hU9
    have hst9 := run_storeAt_row (P := Tryz.prog) (o := 0) (ty := 47) (v := .agg #[.bool vb0, .int .i64 vc0]) hU10.heap (by kernel_rfl) (by simp [Value.cells]) (by simp [Value.cells, Value.oneCell'])
    have hR9 := hU10.setRow (cs := #[.bool vb0, .int .i64 vc0])
    simp only [Value.cells] at hst9
    rw [show splice (#[.bool false, .int .i64 0] : Array Value) 0 (#[.bool vb0, .int .i64 vc0] : Array Value).toList = #[.bool vb0, .int .i64 vc0] by rfl] at hst9
    have hl9 : (Instr.loadAt 47 (.pointer (some ⟨pb + 1, 0, none⟩))).run Tryz.prog (u9.setRow (pb + 1) #[.bool vb0, .int .i64 vc0]) = .ok (.agg #[.bool vb0, .int .i64 vc0]) (u9.setRow (pb + 1) #[.bool vb0, .int .i64 vc0]) :=
      run_loadAt_row (cs := [.bool vb0, .int .i64 vc0]) hR9.heap Tryz.underlying47 rfl (by kernel_rfl) (fun j u hu => by simpa using hu)
    have HX := Lib.hid ((hR9.to (by ac_rfl : _ = blk (pb + 1) (.cells #[.bool vb0, .int .i64 vc0] 47) • blk pb (.cells PK 44) • blk tb (.cells TU 39) • blk mb (.cells #[.int .i64 0, .bool false, .int .i64 0, .int .i64 0, .int .i64 0, .slice none 0 0, .slice none 0 0, .slice none 0 0, .slice none 0 0] 219) • (Q x • F))).drop.drop.drop.drop)
    clear hU10 hR9
    go_wp2_with (refine wpList_store_run (t := 47) rfl rfl rfl rfl hst9 (stop_ ?_))
    unfold Stop
    go_wp2_with fail
    refine ret_cell rfl rfl hl9 rfl ⟨x, rfl, HX.out⟩

end Go.Proofs.YtdcekoocnoackaaGreatDoor
