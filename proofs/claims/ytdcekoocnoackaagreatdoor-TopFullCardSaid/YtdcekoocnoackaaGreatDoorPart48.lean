import Derived.Test.YtdcekoocnoackaaGreatDoorPart44
import Derived.Test.YtdcekoocnoackaaGreatDoorPart47

/-! ether.Parse, packet.head. -/
namespace Go.Proofs.YtdcekoocnoackaaGreatDoor
open Go Go.RowKit

theorem ret_cell_tmp2 {P : Program} {w : World} {fn : Func} {R : Ending → World → Prop} {a : Act} {p u u2 : Tmp} {ty : TypeId} {d : Addr} {v x y : Value} (h : fn.results = #[.cell p ty, .tmp u, .tmp u2]) (hp : a.tmps.getD p undef = .pointer (some d)) (hu : a.tmps.getD u undef = x) (hu2 : a.tmps.getD u2 undef = y)
    (hl : (Instr.loadAt ty (.pointer (some d))).run P w = .ok v w) (hd : a.defers = []) (hR : R (.returned (.tuple #[v, x, y])) w) : bodyPost P fn R .ret a w := by
  refine bodyPost_ret (v := .tuple #[v, x, y]) ?_ hd hR
  have hp' : a.tmps[p]?.getD undef = .pointer (some d) := by simpa using hp
  have hu' : a.tmps[u]?.getD undef = x := by simpa using hu
  have hu2' : a.tmps[u2]?.getD undef = y := by simpa using hu2
  simp [results, h, hp', hu', hu2', asAddr, run_loadVar_of hl]
set_option maxRecDepth 8000 in
theorem deeper_nil (k : Int) (w : World) : Calls Tryz.prog 89 #[.int .i64 k, .nilIface] w fun e w' => e = .returned .nilIface ∧ w' = w := by
  go_enter Tryz.func89, Tryz.ntmps89
  go_wp2_with fail
  go_ret
  exact ⟨rfl, rfl⟩
set_option maxRecDepth 8000 in
set_option maxHeartbeats 2000000 in
theorem ether_any {w : World} {g o c : Nat} (p : Int) (hV : Vw w g o (ethB p)) (hc : 42 ≤ c) :
    Calls Tryz.prog 142 #[.slice (some ⟨g, o, none⟩) 42 c] w fun e w' => e = .returned (.tuple #[.int .i64 2048, .int .i64 14, .nilIface]) ∧ w' = w := by
  have c2 : Calls Tryz.prog 206 #[.slice (some ⟨g, o, none⟩) 42 c, .int .i64 12] w fun e w' => e = .returned (.tuple #[.int .i64 2048, .nilIface]) ∧ w' = w :=
    u16_any (k := 12) hV rfl rfl (by decide) (by decide) (by decide) (by decide) (by simp [ethB, ip4B, ip4H, dgrB]) hc
  clear hV
  go_enter Tryz.func142, Tryz.ntmps142
  go_wp2_with fail
  refine wp_loop_rounds 1 ?_
  rw [rounds_succ]
  go_wp2_with fail
  refine c2.mono ?_
  rintro e w1 ⟨rfl, rfl⟩
  go_wp2_with fail
  refine (is_nil 3 _).mono ?_
  rintro e w2 ⟨rfl, rfl⟩
  go_wp2_with fail
  go_ret3
  exact ⟨rfl, rfl⟩
attribute [local irreducible] wpOrd
set_option maxRecDepth 8000 in
set_option maxHeartbeats 6000000 in
theorem head_any {B : Nat} {w0 w : World} {F : HP} {g o c : Nat} (p : Int) (h : Sat B w0 w F) (hsh : Shows B w0 F g o (ethB p)) (hc : 42 ≤ c) :
    Calls Tryz.prog 84 #[.slice (some ⟨g, o, none⟩) 42 c] w fun e w' => e = .returned (.tuple #[.agg hdC.toArray, .int .i64 14, .nilIface]) ∧ Sat B w0 w' F := by
  have hS1 := h.alloc (.cells #[.bool false, .int .u8 0, .int .u8 0, .int .u8 0, .int .u8 0, .int .u8 0, .int .u8 0, .int .u8 0, .int .u8 0, .int .u8 0, .int .u8 0, .int .u8 0, .int .u8 0, .int .u8 0, .int .u8 0, .int .u8 0, .int .u8 0, .bool false, .int .u8 0, .int .u8 0, .int .u8 0, .int .u8 0, .int .u8 0, .int .u8 0, .int .u8 0, .int .u8 0, .int .u8 0, .int .u8 0, .int .u8 0, .int .u8 0, .int .u8 0, .int .u8 0, .int .u8 0, .int .u8 0, .int .i64 0, .int .i64 0, .int .i64 0] 210)
  have c1 := ether_any p (hsh.more _ hS1) hc
  have hS2 := hS1.alloc (.cells #[.bool false, .int .u8 0, .int .u8 0, .int .u8 0, .int .u8 0, .int .u8 0, .int .u8 0, .int .u8 0, .int .u8 0, .int .u8 0, .int .u8 0, .int .u8 0, .int .u8 0, .int .u8 0, .int .u8 0, .int .u8 0, .int .u8 0, .bool false, .int .u8 0, .int .u8 0, .int .u8 0, .int .u8 0, .int .u8 0, .int .u8 0, .int .u8 0, .int .u8 0, .int .u8 0, .int .u8 0, .int .u8 0, .int .u8 0, .int .u8 0, .int .u8 0, .int .u8 0, .int .u8 0, .int .i64 0, .int .i64 0, .int .i64 0] 210)
  rw [World.size_alloc] at hS2
  have hip : Shows B w0 (blk (w.heap.size + 1) (.cells #[.bool false, .int .u8 0, .int .u8 0, .int .u8 0, .int .u8 0, .int .u8 0, .int .u8 0, .int .u8 0, .int .u8 0, .int .u8 0, .int .u8 0, .int .u8 0, .int .u8 0, .int .u8 0, .int .u8 0, .int .u8 0, .int .u8 0, .bool false, .int .u8 0, .int .u8 0, .int .u8 0, .int .u8 0, .int .u8 0, .int .u8 0, .int .u8 0, .int .u8 0, .int .u8 0, .int .u8 0, .int .u8 0, .int .u8 0, .int .u8 0, .int .u8 0, .int .u8 0, .int .u8 0, .int .i64 0, .int .i64 0, .int .i64 0] 210) • blk w.heap.size (.cells #[.bool false, .int .u8 0, .int .u8 0, .int .u8 0, .int .u8 0, .int .u8 0, .int .u8 0, .int .u8 0, .int .u8 0, .int .u8 0, .int .u8 0, .int .u8 0, .int .u8 0, .int .u8 0, .int .u8 0, .int .u8 0, .int .u8 0, .bool false, .int .u8 0, .int .u8 0, .int .u8 0, .int .u8 0, .int .u8 0, .int .u8 0, .int .u8 0, .int .u8 0, .int .u8 0, .int .u8 0, .int .u8 0, .int .u8 0, .int .u8 0, .int .u8 0, .int .u8 0, .int .u8 0, .int .i64 0, .int .i64 0, .int .i64 0] 210) • F) g (o + 14) (ip4B p) := (hsh.drop 14).more.more
  have c2 := ip4p_any (c := c - 14) p hS2 hip (by omega)
  have hnc : ¬ c = 14 := by omega
  have hc2 : (14 : Int) ≤ c := by omega
  have hone : ∀ u ∈ (Value.agg hdC.toArray).cells.toList, u.oneCell' = true := fun u hu =>
    List.all_eq_true.1 (show hdC.all (fun u => u.oneCell') = true from rfl) u (by simpa [Value.cells] using hu)
  have hHs : hdC.toArray.size = 37 := rfl
  generalize hHD : hdC.toArray = HD at *
  generalize hq : w.heap.size = q at *
  generalize hW1 : w.alloc (.cells #[.bool false, .int .u8 0, .int .u8 0, .int .u8 0, .int .u8 0, .int .u8 0, .int .u8 0, .int .u8 0, .int .u8 0, .int .u8 0, .int .u8 0, .int .u8 0, .int .u8 0, .int .u8 0, .int .u8 0, .int .u8 0, .int .u8 0, .bool false, .int .u8 0, .int .u8 0, .int .u8 0, .int .u8 0, .int .u8 0, .int .u8 0, .int .u8 0, .int .u8 0, .int .u8 0, .int .u8 0, .int .u8 0, .int .u8 0, .int .u8 0, .int .u8 0, .int .u8 0, .int .u8 0, .int .i64 0, .int .i64 0, .int .i64 0] 210) = W1 at *
  generalize hW2 : W1.alloc (.cells #[.bool false, .int .u8 0, .int .u8 0, .int .u8 0, .int .u8 0, .int .u8 0, .int .u8 0, .int .u8 0, .int .u8 0, .int .u8 0, .int .u8 0, .int .u8 0, .int .u8 0, .int .u8 0, .int .u8 0, .int .u8 0, .int .u8 0, .bool false, .int .u8 0, .int .u8 0, .int .u8 0, .int .u8 0, .int .u8 0, .int .u8 0, .int .u8 0, .int .u8 0, .int .u8 0, .int .u8 0, .int .u8 0, .int .u8 0, .int .u8 0, .int .u8 0, .int .u8 0, .int .u8 0, .int .i64 0, .int .i64 0, .int .i64 0] 210) = W2 at *
  have hsz : W1.heap.size = q + 1 := by rw [← hW1, World.size_alloc, hq]
  have HSZ := Lib.hid hsz
  rw [← hsz] at hS2 hip c2
  clear hsz h hS1 hsh hip
  go_enter Tryz.func84, Tryz.ntmps84
  go_wp2_with fail
  refine c1.mono ?_
  rintro e w1 ⟨rfl, rfl⟩
  clear c1
  go_wp2_with fail
  refine c2.mono ?_
  rintro e u0 ⟨rfl, hS3⟩
  have hZs : (#[.bool false, .int .u8 0, .int .u8 0, .int .u8 0, .int .u8 0, .int .u8 0, .int .u8 0, .int .u8 0, .int .u8 0, .int .u8 0, .int .u8 0, .int .u8 0, .int .u8 0, .int .u8 0, .int .u8 0, .int .u8 0, .int .u8 0, .bool false, .int .u8 0, .int .u8 0, .int .u8 0, .int .u8 0, .int .u8 0, .int .u8 0, .int .u8 0, .int .u8 0, .int .u8 0, .int .u8 0, .int .u8 0, .int .u8 0, .int .u8 0, .int .u8 0, .int .u8 0, .int .u8 0, .int .i64 0, .int .i64 0, .int .i64 0] : Array Value).size = 37 := rfl
  have hst := run_storeAt_row (P := Tryz.prog) (o := 0) (ty := 210) (v := .agg HD) hS3.heap (by simp only [Value.cells]; rw [hHs]; kernel_rfl) (by simp only [Value.cells]; rw [hHs, hZs]; omega) hone
  have hS5 := hS3.setRow (cs := HD)
  simp only [Value.cells] at hst
  rw [splice_full (by rw [Array.length_toList, hHs, hZs]), show HD.toList.toArray = HD by simp] at hst
  have hld : ∀ (W : World) {b : Nat}, W.heap[b]? = some (.cells HD 210) → (Instr.loadAt 210 (.pointer (some ⟨b, 0, none⟩))).run Tryz.prog W = .ok (.agg HD) W := fun W b hW =>
    run_loadAt_row (cs := HD.toList) hW Tryz.underlying210 rfl (by rw [Array.length_toList, hHs]; kernel_rfl) (fun j u hu => by simpa using hu)
  clear c2 hS2 hS3
  go_wp2_with (refine wpList_store_run (t := 210) rfl rfl rfl rfl hst (stop_ ?_))
  unfold Stop
  clear hst
  go_wp2_with fail
  try go_frame
  generalize ht8 : w1.heap.size = t8 at *
  generalize hW6 : u0.setRow t8 HD = W6 at *
  refine wp_region_ord [(0, .quiet), (1, .pure), (2, .pure), (3, .pure), (4, .acts), (5, .seals), (6, .pure), (7, .pure)] (by kernel_rfl) (by kernel_rfl)
    (fun w' => w'.heap[t8]? = some (.cells HD 210)) hS5.drew.heap ?_
  refine ord_load (t := 210) rfl rfl rfl (p := .pointer (some ⟨t8, 0, none⟩)) (v := .agg HD) rfl (fun w' hC => hld _ hC) (fun K' hK => ?_)
  go_simp
  refine hK _ ?_
  clear hK K'
  iterate 3 (refine ord_pure rfl rfl rfl (fun K' hK => ?_); go_big_quiet_op; refine hK _ ?_; clear hK K')
  refine ord_acts rfl rfl (fun K' hK => ?_)
  go_simp
  refine (deeper_nil 14 _).mono ?_
  rintro e u1 ⟨rfl, rfl⟩
  refine hK _ _ (hS5.drew.heap) ?_
  clear hK K'
  go_simp
  have hS9 := hS5.drew.pull2.setRow (cs := HD)
  have hst9 := run_storeAt_row (P := Tryz.prog) (o := 0) (ty := 210) (v := .agg HD) hS5.drew.pull2.heap (by simp only [Value.cells]; rw [hHs]; kernel_rfl) (by simp only [Value.cells]; omega) hone
  simp only [Value.cells] at hst9
  rw [splice_full (by rw [Array.length_toList, hHs, hZs]), show HD.toList.toArray = HD by simp] at hst9
  refine ord_store rfl rfl rfl rfl (p := .pointer (some ⟨q, 0, none⟩)) (v := .agg HD) rfl rfl hst9 (fun _ => True) trivial ?_
  iterate 2 (refine ord_pure rfl rfl rfl (fun K' hK => ?_); go_big_quiet_op; refine hK _ ?_; clear hK K')
  refine ord_nil ?_
  have hl9 := hld _ hS9.heap
  have HF := Lib.hid hS9.drop.drop
  clear hS9 hS5 hst9
  go_wp2_with fail
  refine ret_cell_tmp2 rfl rfl rfl rfl hl9 rfl ⟨rfl, HF.out⟩
end Go.Proofs.YtdcekoocnoackaaGreatDoor

/-! packet.Parse. -/
namespace Go.Proofs.YtdcekoocnoackaaGreatDoor
open Go Go.RowKit

theorem hd_A (j : Nat) (u : Value) (h : adA.toList[j]? = some u) : hdC.toArray[0 + j]? = some u := by
  rw [Nat.zero_add, show hdC = adA.toList ++ (adB.toList ++ [.int .i64 17, .int .i64 20, .int .i64 28]) from rfl, List.getElem?_toArray, List.getElem?_append_left (List.getElem?_eq_some_iff.1 h).1]; exact h
theorem hd_B (j : Nat) (u : Value) (h : adB.toList[j]? = some u) : hdC.toArray[17 + j]? = some u := by
  rw [show hdC = adA.toList ++ (adB.toList ++ [.int .i64 17, .int .i64 20, .int .i64 28]) from rfl, List.getElem?_toArray, List.getElem?_append_right (by simp [adA]), show 17 + j - adA.toList.length = j by simp [adA], List.getElem?_append_left (List.getElem?_eq_some_iff.1 h).1]; exact h
def tu0 : Array Value := #[.bool false, .int .u8 1, .int .u8 1, .int .u8 1, .int .u8 1, .int .u8 0, .int .u8 0, .int .u8 0, .int .u8 0, .int .u8 0, .int .u8 0, .int .u8 0, .int .u8 0, .int .u8 0, .int .u8 0, .int .u8 0, .int .u8 0, .bool false, .int .u8 10, .int .u8 0, .int .u8 0, .int .u8 1, .int .u8 0, .int .u8 0, .int .u8 0, .int .u8 0, .int .u8 0, .int .u8 0, .int .u8 0, .int .u8 0, .int .u8 0, .int .u8 0, .int .u8 0, .int .u8 0, .int .i64 17, .int .i64 0, .int .i64 0]
attribute [local irreducible] wpOrd
set_option maxRecDepth 8000 in
set_option maxHeartbeats 8000000 in
theorem pparseF_any {B : Nat} {w0 w : World} {F : HP} {v : Value} (p : Int) (h1 : 0 ≤ p) (h2 : p ≤ 1000) (h : Sat B w0 w (byt v (ethB p) • F)) :
    Calls Tryz.prog 42 #[v] w fun e w' => ∃ A d, e = .returned (.tuple #[.agg (pkP p A d).toArray, .nilIface]) ∧ Sat B w0 w' F := by
  obtain ⟨g, c, rfl, hc0, _⟩ := h.bytVw (by simp [ethB])
  have hlen : (ethB p).length = 42 := by simp [ethB, ip4B, ip4H, dgrB]
  rw [hlen] at h hc0 ⊢
  have hS1 := h.alloc (.cells pkZ.toArray 44)
  have hz : (Tryz.prog.info? 44).map (·.zero) = some (some (.agg pkZ.toArray)) := by kernel_rfl
  have hsh : Shows B w0 (blk w.heap.size (.cells pkZ.toArray 44) • byt (.slice (some ⟨g, 0, none⟩) 42 c) (ethB p) • F) g 0 (ethB p) := (byt_shows (by rw [hlen]; decide)).more
  have c1 := head_any (c := c) p hS1 hsh hc0
  have hdg : Shows B w0 (blk w.heap.size (.cells pkZ.toArray 44) • byt (.slice (some ⟨g, 0, none⟩) 42 c) (ethB p) • F) g (0 + 14 + 20) (dgrB p) := (hsh.drop 14).drop 20
  have hHs : hdC.toArray.size = 37 := rfl
  have hP0s : pk0.toArray.size = 80 := rfl
  have hPZs : pkZ.toArray.size = 80 := rfl
  have hP0o := pk0_one
  have hHo : ∀ u ∈ (Value.agg hdC.toArray).cells.toList, u.oneCell' = true := fun u hu =>
    List.all_eq_true.1 (show hdC.all (fun u => u.oneCell') = true from rfl) u (by simpa [Value.cells] using hu)
  have hdgm := fun (W : World) (G : HP) (hG : Sat B w0 W (G • blk w.heap.size (.cells pkZ.toArray 44) • byt (.slice (some ⟨g, 0, none⟩) 42 c) (ethB p) • F)) => dgram_any (c := c - 34) p h1 h2 hG hdg.more (by omega)
  generalize hHD : hdC.toArray = HD at *
  generalize hP0 : pk0.toArray = P0 at *
  generalize hPZ : pkZ.toArray = PZ at *
  generalize hq : w.heap.size = q at *
  have h34 : HD[34]? = some (.int .i64 17) := by rw [← hHD]; rfl
  have h35 : HD[35]? = some (.int .i64 20) := by rw [← hHD]; rfl
  have h36 : HD[36]? = some (.int .i64 28) := by rw [← hHD]; rfl
  have hnc : ¬ c = 34 := by omega
  have hc2 : (34 : Int) ≤ c := by omega
  have hc3 : (42 : Int) ≤ c := by omega
  clear h hsh hdg
  go_enter Tryz.func42, Tryz.ntmps42
  go_upto_region 0 with (fail)
  refine wp_region_seq [(0, .acts), (1, .pure)] (by kernel_rfl)
    (fun _ => True) trivial ?_
  refine ord_acts rfl rfl (fun K' hK => wp_alloc_run rfl hz (hK _ _ trivial ?_))
  clear hK K'
  go_simp
  iterate 1 (refine ord_pure rfl rfl rfl (fun K' hK => ?_); go_big_quiet_op; refine hK _ ?_; clear hK K')
  refine ord_nil ?_
  generalize hW1 : w.alloc (.cells (Value.agg PZ).cells 44) = W1 at *
  go_wp2_with fail
  refine c1.mono ?_
  rintro e w1 ⟨rfl, hS0⟩
  have hst : ∀ z : Array Value, z.size = 37 → (Instr.storeAt 210 (.pointer (some ⟨w1.heap.size, 0, none⟩)) (.agg HD)).run Tryz.prog (w1.alloc (.cells z 210)) = .ok () (w1.alloc (.cells HD 210)) :=
    fun z hz => run_storeAt_new (v := .agg HD) (by simp only [Value.cells]; rw [hHs]; kernel_rfl) (by simp only [Value.cells]; rw [hz, hHs]) hHo
  have hS2 := hS0.alloc (.cells HD 210)
  clear c1 hS0 hS1
  go_wp2_with (refine wpList_store_run (t := 210) rfl rfl rfl rfl (hst _ rfl) (stop_ ?_))
  unfold Stop
  clear hst
  generalize ht4 : w1.heap.size = t4 at *
  generalize hU2 : w1.alloc (.cells HD 210) = U2 at *
  go_upto_region 4 with (fail)
  have hst0 : (Instr.storeAt 44 (.pointer (some ⟨U2.heap.size, 0, none⟩)) (.agg P0)).run Tryz.prog (U2.alloc (.cells (Value.agg PZ).cells 44)) = .ok () (U2.alloc (.cells P0 44)) :=
    run_storeAt_new (v := .agg P0) (by simp only [Value.cells]; rw [hP0s]; kernel_rfl) (by simp only [Value.cells]; rw [hPZs, hP0s]) hP0o
  refine wp_region_seq [(0, .pure), (1, .quiet), (2, .pure), (3, .quiet), (4, .pure), (5, .quiet), (6, .pure), (7, .pure), (8, .acts), (9, .seals)] (by kernel_rfl)
    (fun w' => w'.heap[t4]? = some (.cells HD 210)) hS2.heap ?_
  iterate 1 (refine ord_pure rfl rfl rfl (fun K' hK => ?_); go_big_quiet_op; refine hK _ ?_; clear hK K')
  refine ord_load (t := 36) rfl rfl rfl (p := .pointer (some ⟨t4, 0, none⟩)) (v := .agg adA) rfl (fun w' hC => run_loadAt_row (cs := adA.toList) hC Tryz.underlying36 rfl (by kernel_rfl) (fun j u hu => by rw [← hHD]; exact hd_A j u hu)) (fun K' hK => ?_)
  go_simp
  refine hK _ ?_
  clear hK K'
  iterate 1 (refine ord_pure rfl rfl rfl (fun K' hK => ?_); go_big_quiet_op; refine hK _ ?_; clear hK K')
  refine ord_load (t := 36) rfl rfl rfl (p := .pointer (some ⟨t4, 17, none⟩)) (v := .agg adB) rfl (fun w' hC => run_loadAt_row (cs := adB.toList) hC Tryz.underlying36 rfl (by kernel_rfl) (fun j u hu => by rw [← hHD]; exact hd_B j u hu)) (fun K' hK => ?_)
  go_simp
  refine hK _ ?_
  clear hK K'
  iterate 1 (refine ord_pure rfl rfl rfl (fun K' hK => ?_); go_big_quiet_op; refine hK _ ?_; clear hK K')
  refine ord_load (t := 3) rfl rfl rfl (p := .pointer (some ⟨t4, 34, none⟩)) (v := .int .i64 17) rfl (fun w' hC => run_loadAt_one hC Tryz.underlying3 rfl (by rw [← hHD]; rfl)) (fun K' hK => ?_)
  go_simp
  refine hK _ ?_
  clear hK K'
  refine ord_run (v := .agg tu0) rfl rfl (exec_build rfl (vs := [(0, .agg adA), (1, .agg adB), (2, .int .i64 17)]) (by simp [Act.eval]) (by kernel_rfl)) (fun K' hK => ?_)
  go_simp
  refine hK _ ?_
  clear hK K'
  refine ord_run (v := .agg P0) rfl rfl (exec_build rfl (vs := [(0, .agg tu0)]) (by simp [Act.eval]) (by rw [← hP0]; kernel_rfl)) (fun K' hK => ?_)
  go_simp
  refine hK _ ?_
  clear hK K'
  refine ord_acts rfl rfl (fun K' hK => wp_alloc_run rfl hz (hK _ _ (hS2.alloc_ _).heap ?_))
  clear hK K'
  go_simp
  refine ord_store rfl rfl rfl rfl (p := .pointer (some ⟨U2.heap.size, 0, none⟩)) (v := .agg P0) rfl rfl hst0 (fun _ => True) trivial ?_
  refine ord_nil ?_
  have hS3 := hS2.alloc (.cells P0 44)
  have d34 : (U2.alloc (.cells P0 44)).cell? ⟨t4, 34, none⟩ = some (.int .i64 17) := cell_heap hS3.pull2.heap h34
  have d35 : (U2.alloc (.cells P0 44)).cell? ⟨t4, 35, none⟩ = some (.int .i64 20) := cell_heap hS3.pull2.heap h35
  have d36 : (U2.alloc (.cells P0 44)).cell? ⟨t4, 36, none⟩ = some (.int .i64 28) := cell_heap hS3.pull2.heap h36
  have hl3 : (Instr.loadAt 44 (.pointer (some ⟨U2.heap.size, 0, none⟩))).run Tryz.prog (U2.alloc (.cells P0 44)) = .ok (.agg P0) (U2.alloc (.cells P0 44)) :=
    run_loadAt_row (cs := P0.toList) hS3.heap Tryz.underlying44 rfl (by rw [Array.length_toList, hP0s]; kernel_rfl) (fun j u hu => by simpa using hu)
  have cd := hdgm _ (blk U2.heap.size (.cells P0 44) • blk t4 (.cells HD 210)) (hS3.to (star_assoc _ _ _).symm)
  generalize hpb : U2.heap.size = pb at *
  generalize hU3 : U2.alloc (.cells P0 44) = U3 at *
  clear hst0 hS2 hS3 hdgm
  go_wp2_with (refine wpList_load_run (t := 44) rfl rfl rfl hl3 (stop_ ?_))
  unfold Stop
  clear hl3
  go_wp2_with fail
  refine cd.mono ?_
  rintro e u4 ⟨A, d, rfl, hS4'⟩
  rw [star_assoc] at hS4'
  have hpl : (pkP p A d).toArray.size = 80 := rfl
  have hone := pkP_one p A d
  generalize hPP : (pkP p A d).toArray = PP at *
  have hst4 := run_storeAt_row (P := Tryz.prog) (o := 0) (ty := 44) (v := .agg PP) hS4'.heap (by simp only [Value.cells]; rw [hpl]; kernel_rfl) (by simp only [Value.cells]; omega) hone
  have hS5 := hS4'.setRow (cs := PP)
  simp only [Value.cells] at hst4
  rw [splice_full (by rw [Array.length_toList, hpl, hP0s]), show PP.toList.toArray = PP by simp] at hst4
  have hS6 := hS5.alloc_ (.cells #[.pointer none] 214)
  have hl6 : (Instr.loadAt 44 (.pointer (some ⟨pb, 0, none⟩))).run Tryz.prog ((u4.setRow pb PP).alloc (.cells #[.pointer none] 214)) = .ok (.agg PP) ((u4.setRow pb PP).alloc (.cells #[.pointer none] 214)) :=
    run_loadAt_row (cs := PP.toList) hS6.heap Tryz.underlying44 rfl (by rw [Array.length_toList, hpl]; kernel_rfl) (fun j u hu => by simpa using hu)
  have hst8 := run_storeAt_row (P := Tryz.prog) (o := 0) (ty := 44) (v := .agg PP) hS6.pull3.heap (by simp only [Value.cells]; rw [hpl]; kernel_rfl) (by simp only [Value.cells]; rw [hpl, hPZs]; omega) hone
  have hS9 := hS6.pull3.setRow (cs := PP)
  simp only [Value.cells] at hst8
  rw [splice_full (by rw [Array.length_toList, hpl, hPZs]), show PP.toList.toArray = PP by simp] at hst8
  have hl9 : (Instr.loadAt 44 (.pointer (some ⟨q, 0, none⟩))).run Tryz.prog (((u4.setRow pb PP).alloc (.cells #[.pointer none] 214)).setRow q PP) = .ok (.agg PP) (((u4.setRow pb PP).alloc (.cells #[.pointer none] 214)).setRow q PP) :=
    run_loadAt_row (cs := PP.toList) hS9.heap Tryz.underlying44 rfl (by rw [Array.length_toList, hpl]; kernel_rfl) (fun j u hu => by simpa using hu)
  have HF := Lib.hid hS9.drop.drop.drop.drop
  have HPP := Lib.hid hPP
  clear cd d34 d35 d36 hS4' hS5 hS6 hS9 hone hPP
  go_wp2_with (refine wpList_store_run (t := 44) rfl rfl rfl rfl hst4 (stop_ ?_))
  unfold Stop
  clear hst4
  generalize hu5 : u4.setRow pb PP = u5 at *
  go_wp2_with fail
  refine (as_nil _ _).mono ?_
  rintro e u6 ⟨rfl, rfl⟩
  go_wp2_with (refine wpList_load_run (t := 44) rfl rfl rfl hl6 (stop_ ?_))
  unfold Stop
  go_wp2_with (refine wpList_store_run (t := 44) rfl rfl rfl rfl hst8 (stop_ ?_))
  unfold Stop
  go_wp2_with fail
  refine ret_cell_tmp rfl rfl rfl hl9 rfl ⟨A, d, by rw [HPP.out]; rfl, HF.out⟩
end Go.Proofs.YtdcekoocnoackaaGreatDoor

/-! firewall.frame, Step. -/
namespace Go.Proofs.YtdcekoocnoackaaGreatDoor
open Go Go.RowKit

attribute [local irreducible] wpOrd
set_option maxRecDepth 8000 in
set_option maxHeartbeats 8000000 in
theorem frameS_any {B : Nat} {w0 w : World} {I F : HP} {Q : Nat → HP} {vb0 : Bool} {vc0 : Int} {v : Value} {fw : Nat} (p : Int) (h1 : 0 ≤ p) (h2 : p ≤ 1000)
    (hcon : ∀ A d W G, Sat B w0 W (I • G) → Calls Tryz.prog 43 #[.pointer (some ⟨fw, 0, none⟩), .agg (pkP p A d).toArray] W fun e w' => ∃ x, e = .returned (.agg #[.bool vb0, .int .i64 vc0]) ∧ Sat B w0 w' (Q x • G))
    (h : Sat B w0 w (byt v (ethB p) • I • F)) : Calls Tryz.prog 21 #[.pointer (some ⟨fw, 0, none⟩), .int .i64 0, v] w fun e w' => ∃ x, e = .returned (.agg #[.bool vb0, .int .i64 vc0]) ∧ Sat B w0 w' (Q x • F) := by
  have hS1 := (h.alloc (.cells #[.bool false, .int .i64 0] 47)).pull2
  have cp := pparseF_any p h1 h2 hS1
  have hz : (Tryz.prog.info? 44).map (·.zero) = some (some (.agg pkZ.toArray)) := by kernel_rfl
  have hPZs : pkZ.toArray.size = 80 := rfl
  obtain ⟨vA, vc, rfl⟩ := (show ∃ A c, v = .slice A (ethB p).length c from ⟨_, _, (h.bytVw (by simp [ethB])).choose_spec.choose_spec.1⟩)
  generalize hPZ : pkZ.toArray = PZ at *
  generalize hvb : w.heap.size = vb at *
  generalize hW1 : w.alloc (.cells #[.bool false, .int .i64 0] 47) = W1 at *
  clear h hS1 hPZ
  go_enter Tryz.func21, Tryz.ntmps21
  go_upto_region 3 with (fail)
  refine wp_region_seq [(0, .pure), (1, .acts), (2, .pure), (3, .pure), (4, .pure), (5, .acts), (6, .seals), (7, .pure)] (by kernel_rfl)
    (fun _ => True) trivial ?_
  iterate 1 (refine ord_pure rfl rfl rfl (fun K' hK => ?_); go_big_quiet_op; refine hK _ ?_; clear hK K')
  refine ord_acts rfl rfl (fun K' hK => ?_)
  go_simp
  refine (cp).mono ?_
  rintro e u1 ⟨A, d, rfl, hS2⟩
  have hpl : (pkP p A d).toArray.size = 80 := rfl
  have hone := pkP_one p A d
  have hPKl : ∀ (b : Nat) (V : World), V.heap[b]? = some (.cells (pkP p A d).toArray 44) → (Instr.loadAt 44 (.pointer (some ⟨b, 0, none⟩))).run Tryz.prog V = .ok (.agg (pkP p A d).toArray) V := fun b V hV =>
    run_loadAt_row (cs := pkP p A d) hV Tryz.underlying44 rfl (by rw [pkP_len]; kernel_rfl) (fun j u hu => by simpa using hu)
  have hcon2 := hcon A d
  clear hcon
  generalize (pkP p A d).toArray = PP at *
  refine hK _ _ (trivial) ?_
  clear hK K'
  go_simp
  iterate 3 (refine ord_pure rfl rfl rfl (fun K' hK => ?_); go_big_quiet_op; refine hK _ ?_; clear hK K')
  refine ord_acts rfl rfl (fun K' hK => wp_alloc_run rfl hz (hK _ _ trivial ?_))
  clear hK K'
  go_simp
  refine ord_store rfl rfl rfl rfl (p := .pointer (some ⟨u1.heap.size, 0, none⟩)) (v := .agg PP) rfl rfl (run_storeAt_new (z := PZ) (v := .agg PP) (by simp only [Value.cells]; rw [hpl]; kernel_rfl) (by simp only [Value.cells]; rw [hpl, hPZs]) hone) (fun _ => True) trivial ?_
  go_simp
  iterate 1 (refine ord_pure rfl rfl rfl (fun K' hK => ?_); go_big_quiet_op; refine hK _ ?_; clear hK K')
  refine ord_nil ?_
  have hS3 := (hS2.alloc (.cells PP 44)).alloc_ (.cells #[.int .i64 0] 58)
  have hl3 := hPKl _ _ hS3.heap
  generalize hpb : u1.heap.size = pb at *
  simp only [Value.cells] at *
  generalize hU1 : u1.alloc (.cells PP 44) = U1 at *
  go_wp2_with fail
  refine (as_nil _ _).mono ?_
  rintro e u6 ⟨rfl, rfl⟩
  go_wp2_with (refine wpList_load_run (t := 44) rfl rfl rfl hl3 (stop_ ?_))
  unfold Stop
  clear hl3
  have c4 := hcon2 _ _ (hS3.to (by ac_rfl : _ = I • (blk vb (.cells #[.bool false, .int .i64 0] 47) • (blk pb (.cells PP 44) • F))))
  clear hcon2 hS3 hS2 hPKl cp
  go_wp2_with fail
  refine c4.mono ?_
  rintro e u7 ⟨x, rfl, hU7⟩
  have hU8 := hU7.pull2
  clear c4 hU7
  have hst7 := run_storeAt_row (P := Tryz.prog) (o := 0) (ty := 47) (v := .agg #[.bool vb0, .int .i64 vc0]) hU8.heap (by kernel_rfl) (by simp [Value.cells]) (by simp [Value.cells, Value.oneCell'])
  have hR7 := hU8.setRow (cs := #[.bool vb0, .int .i64 vc0])
  simp only [Value.cells] at hst7
  rw [show splice (#[.bool false, .int .i64 0] : Array Value) 0 (#[.bool vb0, .int .i64 vc0] : Array Value).toList = #[.bool vb0, .int .i64 vc0] by rfl] at hst7
  have hl7 : (Instr.loadAt 47 (.pointer (some ⟨vb, 0, none⟩))).run Tryz.prog (u7.setRow (vb) #[.bool vb0, .int .i64 vc0]) = .ok (.agg #[.bool vb0, .int .i64 vc0]) (u7.setRow (vb) #[.bool vb0, .int .i64 vc0]) :=
    run_loadAt_row (cs := [.bool vb0, .int .i64 vc0]) hR7.heap Tryz.underlying47 rfl (by kernel_rfl) (fun j u hu => by simpa using hu)
  have HF := Lib.hid ((hR7.to (by ac_rfl : _ = blk vb (.cells #[.bool vb0, .int .i64 vc0] 47) • blk pb (.cells PP 44) • (Q x • F))).drop.drop)
  clear hU8 hR7
  go_wp2_with (refine wpList_store_run (t := 47) rfl rfl rfl rfl hst7 (stop_ ?_))
  unfold Stop
  go_wp2_with fail
  refine ret_cell rfl rfl hl7 rfl ⟨x, rfl, HF.out⟩
set_option maxRecDepth 8000 in
set_option maxHeartbeats 8000000 in
theorem step_any {B : Nat} {w0 w : World} {I F : HP} {Q : Nat → HP} {vb0 : Bool} {vc0 : Int} {v : Value} {fw : Nat} {tx : ByteArray} (p : Int) (h1 : 0 ≤ p) (h2 : p ≤ 1000)
    (hcon : ∀ A d W G, Sat B w0 W (I • G) → Calls Tryz.prog 43 #[.pointer (some ⟨fw, 0, none⟩), .agg (pkP p A d).toArray] W fun e w' => ∃ x, e = .returned (.agg #[.bool vb0, .int .i64 vc0]) ∧ Sat B w0 w' (Q x • G))
    (h : Sat B w0 w (byt v (ethB p) • I • F)) : Calls Tryz.prog 10 #[.pointer (some ⟨fw, 0, none⟩), .agg #[.int .i64 1, .int .i64 0, v, .int .u64 0, .string tx]] w fun e w' => ∃ x, e = .returned (.agg #[.bool vb0, .int .i64 vc0]) ∧ Sat B w0 w' (Q x • F) := by
  have hS1 := (h.alloc (.cells #[.int .i64 1, .int .i64 0, v, .int .u64 0, .string tx] 51)).alloc (.cells #[.bool false, .int .i64 0] 47)
  simp only [World.size_alloc] at hS1
  have c1 := frameS_any p h1 h2 hcon (hS1.to (by ac_rfl : _ = byt v (ethB p) • I • (blk (w.heap.size + 1) (.cells #[.bool false, .int .i64 0] 47) • (blk w.heap.size (.cells #[.int .i64 1, .int .i64 0, v, .int .u64 0, .string tx] 51) • F))))
  obtain ⟨vA, vc, rfl⟩ := (show ∃ A c, v = .slice A (ethB p).length c from ⟨_, _, (h.bytVw (by simp [ethB])).choose_spec.choose_spec.1⟩)
  have d0 := cell_heap (v := .int .i64 1) (o := 0) hS1.pull2.heap rfl
  have d1 := cell_heap (v := .int .i64 0) (o := 1) hS1.pull2.heap rfl
  have d2 := cell_heap (v := .slice vA (ethB p).length vc) (o := 2) hS1.pull2.heap rfl
  clear h hcon hS1
  go_enter Tryz.func10, Tryz.ntmps10
  go_wp2_with fail
  refine c1.mono ?_
  rintro e u7 ⟨x, rfl, hU7⟩
  have hU8 := hU7.pull2
  clear c1 hU7 d0 d1 d2
  have hst7 := run_storeAt_row (P := Tryz.prog) (o := 0) (ty := 47) (v := .agg #[.bool vb0, .int .i64 vc0]) hU8.heap (by kernel_rfl) (by simp [Value.cells]) (by simp [Value.cells, Value.oneCell'])
  have hR7 := hU8.setRow (cs := #[.bool vb0, .int .i64 vc0])
  simp only [Value.cells] at hst7
  rw [show splice (#[.bool false, .int .i64 0] : Array Value) 0 (#[.bool vb0, .int .i64 vc0] : Array Value).toList = #[.bool vb0, .int .i64 vc0] by rfl] at hst7
  have hl7 : (Instr.loadAt 47 (.pointer (some ⟨w.heap.size + 1, 0, none⟩))).run Tryz.prog (u7.setRow (w.heap.size + 1) #[.bool vb0, .int .i64 vc0]) = .ok (.agg #[.bool vb0, .int .i64 vc0]) (u7.setRow (w.heap.size + 1) #[.bool vb0, .int .i64 vc0]) :=
    run_loadAt_row (cs := [.bool vb0, .int .i64 vc0]) hR7.heap Tryz.underlying47 rfl (by kernel_rfl) (fun j u hu => by simpa using hu)
  have HF := Lib.hid ((hR7.to (by ac_rfl : _ = blk (w.heap.size + 1) (.cells #[.bool vb0, .int .i64 vc0] 47) • blk w.heap.size (.cells #[.int .i64 1, .int .i64 0, .slice vA (ethB p).length vc, .int .u64 0, .string tx] 51) • (Q x • F))).drop.drop)
  clear hU8 hR7
  go_wp2_with (refine wpList_store_run (t := 47) rfl rfl rfl rfl hst7 (stop_ ?_))
  unfold Stop
  go_wp2_with fail
  refine ret_cell rfl rfl hl7 rfl ⟨x, rfl, HF.out⟩
end Go.Proofs.YtdcekoocnoackaaGreatDoor
