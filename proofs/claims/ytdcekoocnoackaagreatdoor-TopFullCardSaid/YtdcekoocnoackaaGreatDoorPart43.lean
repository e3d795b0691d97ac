import Derived.Test.YtdcekoocnoackaaGreatDoorPart42

/-! addr.Four, ip4.Parse. -/
namespace Go.Proofs.YtdcekoocnoackaaGreatDoor
open Go Go.RowKit

theorem wp_copy_run {P : Program} {w w' : World} {o : Oper} {a : Act} {K : Act → World → Prop} {Q : Exit → Act → World → Prop} (s x : Operand) (t u : TypeId)
    (ho : o.op = .call { callee := .builtin .copy, args := #[s, x], argTypes := #[t, u] }) {vs vx v' : Value} (hs : a.eval s = vs) (hx : a.eval x = vx)
    (hr : (Builtin.copy_ #[t, u] o.type #[vs, vx]).run P w = .ok v' w') (h : K (a.put o.dst v') w') : o.wp P a w K Q := by
  unfold Oper.wp execOp
  simp only [ho, resolve, invoke, builtin, Sem.run_bind, Sem.run_pure, Result.andThen_ok, List.map_toArray, List.map_cons, List.map_nil, hs, hx, hr]
  exact h
attribute [local irreducible] wpOrd
set_option maxRecDepth 8000 in
set_option maxHeartbeats 4000000 in
theorem four_12 {B : Nat} {w0 w : World} {F : HP} {g o c : Nat} (p : Int) (h : Sat B w0 w F) (hsh : Shows B w0 F g o (ip4B p)) (hc : 28 ≤ c) :
    Calls Tryz.prog 209 #[.slice (some ⟨g, o, none⟩) 28 c, .int .i64 12] w fun e w' => e = .returned (.agg adA) ∧ Sat B w0 w' F := by
  have hS2 := (h.alloc (.cells #[.bool false, .int .u8 0, .int .u8 0, .int .u8 0, .int .u8 0, .int .u8 0, .int .u8 0, .int .u8 0, .int .u8 0, .int .u8 0, .int .u8 0, .int .u8 0, .int .u8 0, .int .u8 0, .int .u8 0, .int .u8 0, .int .u8 0] 36)).alloc (.cells #[.bool false, .int .u8 0, .int .u8 0, .int .u8 0, .int .u8 0, .int .u8 0, .int .u8 0, .int .u8 0, .int .u8 0, .int .u8 0, .int .u8 0, .int .u8 0, .int .u8 0, .int .u8 0, .int .u8 0, .int .u8 0, .int .u8 0] 36)
  rw [World.size_alloc] at hS2
  have hV : Vw _ g o (ip4B p) := hsh.more.more _ hS2.drew
  have hcp := run_copy_row (P := Tryz.prog) ((w.alloc (.cells #[.bool false, .int .u8 0, .int .u8 0, .int .u8 0, .int .u8 0, .int .u8 0, .int .u8 0, .int .u8 0, .int .u8 0, .int .u8 0, .int .u8 0, .int .u8 0, .int .u8 0, .int .u8 0, .int .u8 0, .int .u8 0, .int .u8 0] 36)).alloc (.cells #[.bool false, .int .u8 0, .int .u8 0, .int .u8 0, .int .u8 0, .int .u8 0, .int .u8 0, .int .u8 0, .int .u8 0, .int .u8 0, .int .u8 0, .int .u8 0, .int .u8 0, .int .u8 0, .int .u8 0, .int .u8 0, .int .u8 0] 36)).drew 32 32 3 5 (w.heap.size + 1) 1 4 16 ⟨g, o + 12, none⟩ (28 - 12) (c - 12) #[.bool false, .int .u8 0, .int .u8 0, .int .u8 0, .int .u8 0, .int .u8 0, .int .u8 0, .int .u8 0, .int .u8 0, .int .u8 0, .int .u8 0, .int .u8 0, .int .u8 0, .int .u8 0, .int .u8 0, .int .u8 0, .int .u8 0] 36 [.int .u8 1, .int .u8 1, .int .u8 1, .int .u8 1] Tryz.underlying32 (by kernel_rfl) hS2.drew.heap rfl (fun j v hv => by
      rw [Addr.add_lit, Nat.add_assoc]
      match j, hv with
      | 0, hv => cases hv; exact hV (12 + 0) _ rfl
      | 1, hv => cases hv; exact hV (12 + 1) _ rfl
      | 2, hv => cases hv; exact hV (12 + 2) _ rfl
      | 3, hv => cases hv; exact hV (12 + 3) _ rfl
      | (j + 4), hv => simp at hv) (by simp) (by intro v hv; simp at hv; rw [hv]; rfl)
  have hS3 := hS2.drew.setRow (cs := #[.bool false, .int .u8 1, .int .u8 1, .int .u8 1, .int .u8 1, .int .u8 0, .int .u8 0, .int .u8 0, .int .u8 0, .int .u8 0, .int .u8 0, .int .u8 0, .int .u8 0, .int .u8 0, .int .u8 0, .int .u8 0, .int .u8 0])
  generalize hq : w.heap.size = q at *
  generalize hW : (w.alloc (.cells #[.bool false, .int .u8 0, .int .u8 0, .int .u8 0, .int .u8 0, .int .u8 0, .int .u8 0, .int .u8 0, .int .u8 0, .int .u8 0, .int .u8 0, .int .u8 0, .int .u8 0, .int .u8 0, .int .u8 0, .int .u8 0, .int .u8 0] 36)).alloc (.cells #[.bool false, .int .u8 0, .int .u8 0, .int .u8 0, .int .u8 0, .int .u8 0, .int .u8 0, .int .u8 0, .int .u8 0, .int .u8 0, .int .u8 0, .int .u8 0, .int .u8 0, .int .u8 0, .int .u8 0, .int .u8 0, .int .u8 0] 36) = W at *
  have hnc : ¬ c = 12 := by omega
  have hc2 : (12 : Int) ≤ c := by omega
  clear h hV hsh
  go_enter Tryz.func209, Tryz.ntmps209
  go_wp2_with fail
  try go_frame
  refine wp_region_ord [(0, .pure), (1, .pure), (2, .pure), (3, .pure), (4, .pure), (5, .acts)] (by kernel_rfl) (by kernel_rfl)
    (fun _ => True) trivial ?_
  iterate 5 (refine ord_pure rfl rfl rfl (fun K' hK => ?_); go_big_quiet_op; refine hK _ ?_; clear hK K')
  refine ord_acts rfl rfl (fun K' hK => wp_copy_run _ _ _ _ rfl rfl rfl hcp (hK _ _ trivial ?_))
  clear hK K'
  go_simp
  refine ord_nil ?_
  have hl : (Instr.loadAt 36 (.pointer (some ⟨q + 1, 0, none⟩))).run Tryz.prog (W.drew.setRow (q + 1) #[.bool false, .int .u8 1, .int .u8 1, .int .u8 1, .int .u8 1, .int .u8 0, .int .u8 0, .int .u8 0, .int .u8 0, .int .u8 0, .int .u8 0, .int .u8 0, .int .u8 0, .int .u8 0, .int .u8 0, .int .u8 0, .int .u8 0]) = .ok (.agg #[.bool false, .int .u8 1, .int .u8 1, .int .u8 1, .int .u8 1, .int .u8 0, .int .u8 0, .int .u8 0, .int .u8 0, .int .u8 0, .int .u8 0, .int .u8 0, .int .u8 0, .int .u8 0, .int .u8 0, .int .u8 0, .int .u8 0]) (W.drew.setRow (q + 1) #[.bool false, .int .u8 1, .int .u8 1, .int .u8 1, .int .u8 1, .int .u8 0, .int .u8 0, .int .u8 0, .int .u8 0, .int .u8 0, .int .u8 0, .int .u8 0, .int .u8 0, .int .u8 0, .int .u8 0, .int .u8 0, .int .u8 0]) :=
    run_loadAt_row (cs := [.bool false, .int .u8 1, .int .u8 1, .int .u8 1, .int .u8 1, .int .u8 0, .int .u8 0, .int .u8 0, .int .u8 0, .int .u8 0, .int .u8 0, .int .u8 0, .int .u8 0, .int .u8 0, .int .u8 0, .int .u8 0, .int .u8 0]) hS3.heap Tryz.underlying36 rfl (by kernel_rfl) (fun j u hu => by simpa using hu)
  have hst := run_storeAt_row (P := Tryz.prog) (o := 0) (ty := 36) (v := .agg #[.bool false, .int .u8 1, .int .u8 1, .int .u8 1, .int .u8 1, .int .u8 0, .int .u8 0, .int .u8 0, .int .u8 0, .int .u8 0, .int .u8 0, .int .u8 0, .int .u8 0, .int .u8 0, .int .u8 0, .int .u8 0, .int .u8 0]) hS3.pull2.heap (by kernel_rfl) (by simp [Value.cells]) (by simp [Value.cells, Value.oneCell'])
  have hS9 := hS3.pull2.setRow (cs := #[.bool false, .int .u8 1, .int .u8 1, .int .u8 1, .int .u8 1, .int .u8 0, .int .u8 0, .int .u8 0, .int .u8 0, .int .u8 0, .int .u8 0, .int .u8 0, .int .u8 0, .int .u8 0, .int .u8 0, .int .u8 0, .int .u8 0])
  simp only [Value.cells] at hst
  rw [show splice (#[.bool false, .int .u8 0, .int .u8 0, .int .u8 0, .int .u8 0, .int .u8 0, .int .u8 0, .int .u8 0, .int .u8 0, .int .u8 0, .int .u8 0, .int .u8 0, .int .u8 0, .int .u8 0, .int .u8 0, .int .u8 0, .int .u8 0] : Array Value) 0 (#[.bool false, .int .u8 1, .int .u8 1, .int .u8 1, .int .u8 1, .int .u8 0, .int .u8 0, .int .u8 0, .int .u8 0, .int .u8 0, .int .u8 0, .int .u8 0, .int .u8 0, .int .u8 0, .int .u8 0, .int .u8 0, .int .u8 0] : Array Value).toList = #[.bool false, .int .u8 1, .int .u8 1, .int .u8 1, .int .u8 1, .int .u8 0, .int .u8 0, .int .u8 0, .int .u8 0, .int .u8 0, .int .u8 0, .int .u8 0, .int .u8 0, .int .u8 0, .int .u8 0, .int .u8 0, .int .u8 0] by rfl] at hst
  have hl9 : (Instr.loadAt 36 (.pointer (some ⟨q, 0, none⟩))).run Tryz.prog ((W.drew.setRow (q + 1) #[.bool false, .int .u8 1, .int .u8 1, .int .u8 1, .int .u8 1, .int .u8 0, .int .u8 0, .int .u8 0, .int .u8 0, .int .u8 0, .int .u8 0, .int .u8 0, .int .u8 0, .int .u8 0, .int .u8 0, .int .u8 0, .int .u8 0]).setRow q #[.bool false, .int .u8 1, .int .u8 1, .int .u8 1, .int .u8 1, .int .u8 0, .int .u8 0, .int .u8 0, .int .u8 0, .int .u8 0, .int .u8 0, .int .u8 0, .int .u8 0, .int .u8 0, .int .u8 0, .int .u8 0, .int .u8 0]) = .ok (.agg #[.bool false, .int .u8 1, .int .u8 1, .int .u8 1, .int .u8 1, .int .u8 0, .int .u8 0, .int .u8 0, .int .u8 0, .int .u8 0, .int .u8 0, .int .u8 0, .int .u8 0, .int .u8 0, .int .u8 0, .int .u8 0, .int .u8 0]) ((W.drew.setRow (q + 1) #[.bool false, .int .u8 1, .int .u8 1, .int .u8 1, .int .u8 1, .int .u8 0, .int .u8 0, .int .u8 0, .int .u8 0, .int .u8 0, .int .u8 0, .int .u8 0, .int .u8 0, .int .u8 0, .int .u8 0, .int .u8 0, .int .u8 0]).setRow q #[.bool false, .int .u8 1, .int .u8 1, .int .u8 1, .int .u8 1, .int .u8 0, .int .u8 0, .int .u8 0, .int .u8 0, .int .u8 0, .int .u8 0, .int .u8 0, .int .u8 0, .int .u8 0, .int .u8 0, .int .u8 0, .int .u8 0]) :=
    run_loadAt_row (cs := [.bool false, .int .u8 1, .int .u8 1, .int .u8 1, .int .u8 1, .int .u8 0, .int .u8 0, .int .u8 0, .int .u8 0, .int .u8 0, .int .u8 0, .int .u8 0, .int .u8 0, .int .u8 0, .int .u8 0, .int .u8 0, .int .u8 0]) hS9.heap Tryz.underlying36 rfl (by kernel_rfl) (fun j u hu => by simpa using hu)
  have HF := Lib.hid hS9.drop.drop
  clear hS3 hS9 hcp
  go_wp2_with (refine wpList_load_run (t := 36) rfl rfl rfl hl (stop_ ?_))
  unfold Stop
  go_wp2_with (refine wpList_store_run (t := 36) rfl rfl rfl rfl hst (stop_ ?_))
  unfold Stop
  go_wp2_with fail
  refine ret_cell rfl rfl hl9 rfl ⟨rfl, HF.out⟩
set_option maxRecDepth 8000 in
set_option maxHeartbeats 4000000 in
theorem four_16 {B : Nat} {w0 w : World} {F : HP} {g o c : Nat} (p : Int) (h : Sat B w0 w F) (hsh : Shows B w0 F g o (ip4B p)) (hc : 28 ≤ c) :
    Calls Tryz.prog 209 #[.slice (some ⟨g, o, none⟩) 28 c, .int .i64 16] w fun e w' => e = .returned (.agg adB) ∧ Sat B w0 w' F := by
  have hS2 := (h.alloc (.cells #[.bool false, .int .u8 0, .int .u8 0, .int .u8 0, .int .u8 0, .int .u8 0, .int .u8 0, .int .u8 0, .int .u8 0, .int .u8 0, .int .u8 0, .int .u8 0, .int .u8 0, .int .u8 0, .int .u8 0, .int .u8 0, .int .u8 0] 36)).alloc (.cells #[.bool false, .int .u8 0, .int .u8 0, .int .u8 0, .int .u8 0, .int .u8 0, .int .u8 0, .int .u8 0, .int .u8 0, .int .u8 0, .int .u8 0, .int .u8 0, .int .u8 0, .int .u8 0, .int .u8 0, .int .u8 0, .int .u8 0] 36)
  rw [World.size_alloc] at hS2
  have hV : Vw _ g o (ip4B p) := hsh.more.more _ hS2.drew
  have hcp := run_copy_row (P := Tryz.prog) ((w.alloc (.cells #[.bool false, .int .u8 0, .int .u8 0, .int .u8 0, .int .u8 0, .int .u8 0, .int .u8 0, .int .u8 0, .int .u8 0, .int .u8 0, .int .u8 0, .int .u8 0, .int .u8 0, .int .u8 0, .int .u8 0, .int .u8 0, .int .u8 0] 36)).alloc (.cells #[.bool false, .int .u8 0, .int .u8 0, .int .u8 0, .int .u8 0, .int .u8 0, .int .u8 0, .int .u8 0, .int .u8 0, .int .u8 0, .int .u8 0, .int .u8 0, .int .u8 0, .int .u8 0, .int .u8 0, .int .u8 0, .int .u8 0] 36)).drew 32 32 3 5 (w.heap.size + 1) 1 4 16 ⟨g, o + 16, none⟩ (28 - 16) (c - 16) #[.bool false, .int .u8 0, .int .u8 0, .int .u8 0, .int .u8 0, .int .u8 0, .int .u8 0, .int .u8 0, .int .u8 0, .int .u8 0, .int .u8 0, .int .u8 0, .int .u8 0, .int .u8 0, .int .u8 0, .int .u8 0, .int .u8 0] 36 [.int .u8 10, .int .u8 0, .int .u8 0, .int .u8 1] Tryz.underlying32 (by kernel_rfl) hS2.drew.heap rfl (fun j v hv => by
      rw [Addr.add_lit, Nat.add_assoc]
      match j, hv with
      | 0, hv => cases hv; exact hV (16 + 0) _ rfl
      | 1, hv => cases hv; exact hV (16 + 1) _ rfl
      | 2, hv => cases hv; exact hV (16 + 2) _ rfl
      | 3, hv => cases hv; exact hV (16 + 3) _ rfl
      | (j + 4), hv => simp at hv) (by simp) (by intro v hv; simp at hv; rcases hv with rfl | rfl | rfl <;> rfl)
  have hS3 := hS2.drew.setRow (cs := #[.bool false, .int .u8 10, .int .u8 0, .int .u8 0, .int .u8 1, .int .u8 0, .int .u8 0, .int .u8 0, .int .u8 0, .int .u8 0, .int .u8 0, .int .u8 0, .int .u8 0, .int .u8 0, .int .u8 0, .int .u8 0, .int .u8 0])
  generalize hq : w.heap.size = q at *
  generalize hW : (w.alloc (.cells #[.bool false, .int .u8 0, .int .u8 0, .int .u8 0, .int .u8 0, .int .u8 0, .int .u8 0, .int .u8 0, .int .u8 0, .int .u8 0, .int .u8 0, .int .u8 0, .int .u8 0, .int .u8 0, .int .u8 0, .int .u8 0, .int .u8 0] 36)).alloc (.cells #[.bool false, .int .u8 0, .int .u8 0, .int .u8 0, .int .u8 0, .int .u8 0, .int .u8 0, .int .u8 0, .int .u8 0, .int .u8 0, .int .u8 0, .int .u8 0, .int .u8 0, .int .u8 0, .int .u8 0, .int .u8 0, .int .u8 0] 36) = W at *
  have hnc : ¬ c = 16 := by omega
  have hc2 : (16 : Int) ≤ c := by omega
  clear h hV hsh
  go_enter Tryz.func209, Tryz.ntmps209
  go_wp2_with fail
  try go_frame
  refine wp_region_ord [(0, .pure), (1, .pure), (2, .pure), (3, .pure), (4, .pure), (5, .acts)] (by kernel_rfl) (by kernel_rfl)
    (fun _ => True) trivial ?_
  iterate 5 (refine ord_pure rfl rfl rfl (fun K' hK => ?_); go_big_quiet_op; refine hK _ ?_; clear hK K')
  refine ord_acts rfl rfl (fun K' hK => wp_copy_run _ _ _ _ rfl rfl rfl hcp (hK _ _ trivial ?_))
  clear hK K'
  go_simp
  refine ord_nil ?_
  have hl : (Instr.loadAt 36 (.pointer (some ⟨q + 1, 0, none⟩))).run Tryz.prog (W.drew.setRow (q + 1) #[.bool false, .int .u8 10, .int .u8 0, .int .u8 0, .int .u8 1, .int .u8 0, .int .u8 0, .int .u8 0, .int .u8 0, .int .u8 0, .int .u8 0, .int .u8 0, .int .u8 0, .int .u8 0, .int .u8 0, .int .u8 0, .int .u8 0]) = .ok (.agg #[.bool false, .int .u8 10, .int .u8 0, .int .u8 0, .int .u8 1, .int .u8 0, .int .u8 0, .int .u8 0, .int .u8 0, .int .u8 0, .int .u8 0, .int .u8 0, .int .u8 0, .int .u8 0, .int .u8 0, .int .u8 0, .int .u8 0]) (W.drew.setRow (q + 1) #[.bool false, .int .u8 10, .int .u8 0, .int .u8 0, .int .u8 1, .int .u8 0, .int .u8 0, .int .u8 0, .int .u8 0, .int .u8 0, .int .u8 0, .int .u8 0, .int .u8 0, .int .u8 0, .int .u8 0, .int .u8 0, .int .u8 0]) :=
    run_loadAt_row (cs := [.bool false, .int .u8 10, .int .u8 0, .int .u8 0, .int .u8 1, .int .u8 0, .int .u8 0, .int .u8 0, .int .u8 0, .int .u8 0, .int .u8 0, .int .u8 0, .int .u8 0, .int .u8 0, .int .u8 0, .int .u8 0, .int .u8 0]) hS3.heap Tryz.underlying36 rfl (by kernel_rfl) (fun j u hu => by simpa using hu)
  have hst := run_storeAt_row (P := Tryz.prog) (o := 0) (ty := 36) (v := .agg #[.bool false, .int .u8 10, .int .u8 0, .int .u8 0, .int .u8 1, .int .u8 0, .int .u8 0, .int .u8 0, .int .u8 0, .int .u8 0, .int .u8 0, .int .u8 0, .int .u8 0, .int .u8 0, .int .u8 0, .int .u8 0, .int .u8 0]) hS3.pull2.heap (by kernel_rfl) (by simp [Value.cells]) (by simp [Value.cells, Value.oneCell'])
  have hS9 := hS3.pull2.setRow (cs := #[.bool false, .int .u8 10, .int .u8 0, .int .u8 0, .int .u8 1, .int .u8 0, .int .u8 0, .int .u8 0, .int .u8 0, .int .u8 0, .int .u8 0, .int .u8 0, .int .u8 0, .int .u8 0, .int .u8 0, .int .u8 0, .int .u8 0])
  simp only [Value.cells] at hst
  rw [show splice (#[.bool false, .int .u8 0, .int .u8 0, .int .u8 0, .int .u8 0, .int .u8 0, .int .u8 0, .int .u8 0, .int .u8 0, .int .u8 0, .int .u8 0, .int .u8 0, .int .u8 0, .int .u8 0, .int .u8 0, .int .u8 0, .int .u8 0] : Array Value) 0 (#[.bool false, .int .u8 10, .int .u8 0, .int .u8 0, .int .u8 1, .int .u8 0, .int .u8 0, .int .u8 0, .int .u8 0, .int .u8 0, .int .u8 0, .int .u8 0, .int .u8 0, .int .u8 0, .int .u8 0, .int .u8 0, .int .u8 0] : Array Value).toList = #[.bool false, .int .u8 10, .int .u8 0, .int .u8 0, .int .u8 1, .int .u8 0, .int .u8 0, .int .u8 0, .int .u8 0, .int .u8 0, .int .u8 0, .int .u8 0, .int .u8 0, .int .u8 0, .int .u8 0, .int .u8 0, .int .u8 0] by rfl] at hst
  have hl9 : (Instr.loadAt 36 (.pointer (some ⟨q, 0, none⟩))).run Tryz.prog ((W.drew.setRow (q + 1) #[.bool false, .int .u8 10, .int .u8 0, .int .u8 0, .int .u8 1, .int .u8 0, .int .u8 0, .int .u8 0, .int .u8 0, .int .u8 0, .int .u8 0, .int .u8 0, .int .u8 0, .int .u8 0, .int .u8 0, .int .u8 0, .int .u8 0]).setRow q #[.bool false, .int .u8 10, .int .u8 0, .int .u8 0, .int .u8 1, .int .u8 0, .int .u8 0, .int .u8 0, .int .u8 0, .int .u8 0, .int .u8 0, .int .u8 0, .int .u8 0, .int .u8 0, .int .u8 0, .int .u8 0, .int .u8 0]) = .ok (.agg #[.bool false, .int .u8 10, .int .u8 0, .int .u8 0, .int .u8 1, .int .u8 0, .int .u8 0, .int .u8 0, .int .u8 0, .int .u8 0, .int .u8 0, .int .u8 0, .int .u8 0, .int .u8 0, .int .u8 0, .int .u8 0, .int .u8 0]) ((W.drew.setRow (q + 1) #[.bool false, .int .u8 10, .int .u8 0, .int .u8 0, .int .u8 1, .int .u8 0, .int .u8 0, .int .u8 0, .int .u8 0, .int .u8 0, .int .u8 0, .int .u8 0, .int .u8 0, .int .u8 0, .int .u8 0, .int .u8 0, .int .u8 0]).setRow q #[.bool false, .int .u8 10, .int .u8 0, .int .u8 0, .int .u8 1, .int .u8 0, .int .u8 0, .int .u8 0, .int .u8 0, .int .u8 0, .int .u8 0, .int .u8 0, .int .u8 0, .int .u8 0, .int .u8 0, .int .u8 0, .int .u8 0]) :=
    run_loadAt_row (cs := [.bool false, .int .u8 10, .int .u8 0, .int .u8 0, .int .u8 1, .int .u8 0, .int .u8 0, .int .u8 0, .int .u8 0, .int .u8 0, .int .u8 0, .int .u8 0, .int .u8 0, .int .u8 0, .int .u8 0, .int .u8 0, .int .u8 0]) hS9.heap Tryz.underlying36 rfl (by kernel_rfl) (fun j u hu => by simpa using hu)
  have HF := Lib.hid hS9.drop.drop
  clear hS3 hS9 hcp
  go_wp2_with (refine wpList_load_run (t := 36) rfl rfl rfl hl (stop_ ?_))
  unfold Stop
  go_wp2_with (refine wpList_store_run (t := 36) rfl rfl rfl rfl hst (stop_ ?_))
  unfold Stop
  go_wp2_with fail
  refine ret_cell rfl rfl hl9 rfl ⟨rfl, HF.out⟩
set_option maxRecDepth 8000 in
set_option maxHeartbeats 2000000 in
theorem ip4head_any {w : World} {g o c : Nat} (p : Int) (hV : Vw w g o (ip4B p)) (hc : 28 ≤ c) :
    Calls Tryz.prog 207 #[.slice (some ⟨g, o, none⟩) 28 c] w fun e w' => e = .returned (.tuple #[.int .i64 20, .int .i64 28, .nilIface]) ∧ w' = w := by
  have d0 : w.cell? ⟨g, o, none⟩ = some (.int .u8 69) := hV 0 _ rfl
  have c2 : Calls Tryz.prog 206 #[.slice (some ⟨g, o, none⟩) 28 c, .int .i64 2] w fun e w' => e = .returned (.tuple #[.int .i64 28, .nilIface]) ∧ w' = w :=
    u16_any (k := 2) hV rfl rfl (by decide) (by decide) (by decide) (by decide) (by simp [ip4B, ip4H, dgrB]) hc
  have hb : bits .and .u8 69 15 = 5 := by decide
  clear hV
  go_enter Tryz.func207, Tryz.ntmps207
  go_wp2_with fail
  refine c2.mono ?_
  rintro e w1 ⟨rfl, rfl⟩
  go_wp2_with fail
  go_ret3
  exact ⟨rfl, rfl⟩
set_option maxRecDepth 8000 in
set_option maxHeartbeats 2000000 in
theorem ip4whole_any {w : World} {g o c : Nat} (p : Int) (hV : Vw w g o (ip4B p)) (hc : 28 ≤ c) :
    Calls Tryz.prog 208 #[.slice (some ⟨g, o, none⟩) 28 c, .int .i64 20] w fun e w' => e = .returned .nilIface ∧ w' = w := by
  have c2 : Calls Tryz.prog 206 #[.slice (some ⟨g, o, none⟩) 28 c, .int .i64 6] w fun e w' => e = .returned (.tuple #[.int .i64 0, .nilIface]) ∧ w' = w :=
    u16_any (k := 6) hV rfl rfl (by decide) (by decide) (by decide) (by decide) (by simp [ip4B, ip4H, dgrB]) hc
  have c3 : Calls Tryz.prog 262 #[.slice (some ⟨g, o, none⟩) 20 c] w fun e w' => e = .returned (.int .i64 0) ∧ w' = w := by
    have hV2 : Vw w g o ip4H := hV.take 20
    have := sumOf_any (c := c) hV2 (by
      intro x hx
      simp only [ip4H, List.mem_cons, List.not_mem_nil, or_false] at hx
      rcases hx with rfl | rfl | rfl | rfl | rfl | rfl | rfl | rfl | rfl | rfl | rfl | rfl | rfl | rfl | rfl | rfl | rfl | rfl | rfl | rfl <;> decide) 10 rfl (by decide) (by decide) (by rw [show ip4H.length = 20 from rfl]; omega)
    rw [show (65535 - wsum ip4H : Int) = 0 by decide] at this
    exact this
  have hb1 : bits .and .i64 0 8192 = 0 := by decide
  have hb2 : bits .and .i64 0 8191 = 0 := by decide
  have hcc : (20 : Int) ≤ c := by omega
  have hcn : ¬ c = 0 := by omega
  clear hV
  go_enter Tryz.func208, Tryz.ntmps208
  go_wp2_with fail
  refine c2.mono ?_
  rintro e w1 ⟨rfl, rfl⟩
  go_wp2_with fail
  refine c3.mono ?_
  rintro e w2 ⟨rfl, rfl⟩
  go_wp2_with fail
  go_ret
  exact ⟨rfl, rfl⟩
/-- What the packet's head says. -/
def hdC : List Value := [.bool false, .int .u8 1, .int .u8 1, .int .u8 1, .int .u8 1, .int .u8 0, .int .u8 0, .int .u8 0, .int .u8 0, .int .u8 0, .int .u8 0, .int .u8 0, .int .u8 0, .int .u8 0, .int .u8 0, .int .u8 0, .int .u8 0, .bool false, .int .u8 10, .int .u8 0, .int .u8 0, .int .u8 1, .int .u8 0, .int .u8 0, .int .u8 0, .int .u8 0, .int .u8 0, .int .u8 0, .int .u8 0, .int .u8 0, .int .u8 0, .int .u8 0, .int .u8 0, .int .u8 0, .int .i64 17, .int .i64 20, .int .i64 28]
set_option maxRecDepth 8000 in
set_option maxHeartbeats 6000000 in
theorem ip4p_any {B : Nat} {w0 w : World} {F : HP} {g o c : Nat} (p : Int) (h : Sat B w0 w F) (hsh : Shows B w0 F g o (ip4B p)) (hc : 28 ≤ c) :
    Calls Tryz.prog 143 #[.slice (some ⟨g, o, none⟩) 28 c] w fun e w' => e = .returned (.tuple #[.agg hdC.toArray, .nilIface]) ∧ Sat B w0 w' F := by
  have hS1 := h.alloc (.cells #[.bool false, .int .u8 0, .int .u8 0, .int .u8 0, .int .u8 0, .int .u8 0, .int .u8 0, .int .u8 0, .int .u8 0, .int .u8 0, .int .u8 0, .int .u8 0, .int .u8 0, .int .u8 0, .int .u8 0, .int .u8 0, .int .u8 0, .bool false, .int .u8 0, .int .u8 0, .int .u8 0, .int .u8 0, .int .u8 0, .int .u8 0, .int .u8 0, .int .u8 0, .int .u8 0, .int .u8 0, .int .u8 0, .int .u8 0, .int .u8 0, .int .u8 0, .int .u8 0, .int .u8 0, .int .i64 0, .int .i64 0, .int .i64 0] 210)
  have hshF : Shows B w0 (blk w.heap.size (.cells #[.bool false, .int .u8 0, .int .u8 0, .int .u8 0, .int .u8 0, .int .u8 0, .int .u8 0, .int .u8 0, .int .u8 0, .int .u8 0, .int .u8 0, .int .u8 0, .int .u8 0, .int .u8 0, .int .u8 0, .int .u8 0, .int .u8 0, .bool false, .int .u8 0, .int .u8 0, .int .u8 0, .int .u8 0, .int .u8 0, .int .u8 0, .int .u8 0, .int .u8 0, .int .u8 0, .int .u8 0, .int .u8 0, .int .u8 0, .int .u8 0, .int .u8 0, .int .u8 0, .int .u8 0, .int .i64 0, .int .i64 0, .int .i64 0] 210) • F) g o (ip4B p) := hsh.more
  have hdone : ∀ u ∈ (Value.agg hdC.toArray).cells.toList, u.oneCell' = true := by
    intro u hu
    have : u ∈ hdC := by simpa [Value.cells] using hu
    simp only [hdC, List.mem_cons, List.not_mem_nil, or_false] at this
    rcases this with rfl | rfl | rfl | rfl | rfl | rfl | rfl | rfl | rfl | rfl | rfl | rfl | rfl | rfl | rfl | rfl | rfl | rfl | rfl | rfl | rfl | rfl | rfl | rfl | rfl | rfl | rfl | rfl | rfl | rfl | rfl | rfl | rfl | rfl | rfl | rfl | rfl <;> rfl
  have c1 := ip4head_any p (hshF _ hS1) hc
  have c2 := ip4whole_any p (hshF _ hS1) hc
  have hS5 := hS1.alloc_ (.cells #[.pointer none] 214)
  have hnine : ∀ W, Sat B w0 W (blk w.heap.size (.cells #[.bool false, .int .u8 0, .int .u8 0, .int .u8 0, .int .u8 0, .int .u8 0, .int .u8 0, .int .u8 0, .int .u8 0, .int .u8 0, .int .u8 0, .int .u8 0, .int .u8 0, .int .u8 0, .int .u8 0, .int .u8 0, .int .u8 0, .bool false, .int .u8 0, .int .u8 0, .int .u8 0, .int .u8 0, .int .u8 0, .int .u8 0, .int .u8 0, .int .u8 0, .int .u8 0, .int .u8 0, .int .u8 0, .int .u8 0, .int .u8 0, .int .u8 0, .int .u8 0, .int .u8 0, .int .i64 0, .int .i64 0, .int .i64 0] 210) • F) → W.cell? ⟨g, o + 9, none⟩ = some (.int .u8 17) := fun W hW => hshF W hW 9 _ rfl
  generalize hq : w.heap.size = q at *
  generalize hW1 : w.alloc (.cells #[.bool false, .int .u8 0, .int .u8 0, .int .u8 0, .int .u8 0, .int .u8 0, .int .u8 0, .int .u8 0, .int .u8 0, .int .u8 0, .int .u8 0, .int .u8 0, .int .u8 0, .int .u8 0, .int .u8 0, .int .u8 0, .int .u8 0, .bool false, .int .u8 0, .int .u8 0, .int .u8 0, .int .u8 0, .int .u8 0, .int .u8 0, .int .u8 0, .int .u8 0, .int .u8 0, .int .u8 0, .int .u8 0, .int .u8 0, .int .u8 0, .int .u8 0, .int .u8 0, .int .u8 0, .int .i64 0, .int .i64 0, .int .i64 0] 210) = W1 at *
  clear h hS1 hsh
  go_enter Tryz.func143, Tryz.ntmps143
  go_wp2_with fail
  refine c1.mono ?_
  rintro e w1 ⟨rfl, rfl⟩
  clear c1
  go_wp2_with fail
  refine c2.mono ?_
  rintro e w2 ⟨rfl, rfl⟩
  clear c2
  go_wp2_with fail
  refine (as_nil _ _).mono ?_
  rintro e w3 ⟨rfl, rfl⟩
  go_wp2_with fail
  try go_frame
  refine wp_region_ord [(0, .pure), (2, .pure), (4, .pure), (5, .pure), (6, .quiet), (7, .pure), (8, .pure), (9, .pure), (1, .acts), (3, .acts), (10, .pure), (11, .seals), (12, .pure)] (by kernel_rfl) (by kernel_rfl)
    (fun w' => w'.cell? ⟨g, o + 9, none⟩ = some (.int .u8 17)) (hnine _ hS5.drew) ?_
  iterate 4 (refine ord_pure rfl rfl rfl (fun K' hK => ?_); go_big_quiet_op; refine hK _ ?_; clear hK K')
  refine ord_load (t := 5) rfl rfl rfl (p := .pointer (some ⟨g, o + 9, none⟩)) (v := .int .u8 17) rfl (fun w' hC => load_one Tryz.underlying5 rfl hC) (fun K' hK => ?_)
  go_simp
  refine hK _ ?_
  clear hK K'
  iterate 3 (refine ord_pure rfl rfl rfl (fun K' hK => ?_); go_big_quiet_op; refine hK _ ?_; clear hK K')
  refine ord_acts rfl rfl (fun K' hK => ?_)
  go_simp
  refine (four_12 p hS5.drew hshF hc).mono ?_
  rintro e u1 ⟨rfl, hU1⟩
  refine hK _ _ (hnine _ hU1) ?_
  clear hK K'
  go_simp
  refine ord_acts rfl rfl (fun K' hK => ?_)
  go_simp
  refine (four_16 p hU1 hshF hc).mono ?_
  rintro e u2 ⟨rfl, hU2⟩
  refine hK _ _ (hnine _ hU2) ?_
  clear hK K'
  go_simp
  refine ord_run (v := .agg hdC.toArray) rfl rfl (exec_build rfl (vs := [(0, .agg adA), (1, .agg adB), (2, .int .i64 17), (3, .int .i64 20), (4, .int .i64 28)]) (by simp [Act.eval]) (by kernel_rfl)) (fun K' hK => ?_)
  go_simp
  refine hK _ ?_
  clear hK K'
  have hst := run_storeAt_row (P := Tryz.prog) (o := 0) (ty := 210) (v := .agg hdC.toArray) hU2.heap (by kernel_rfl) (by simp [Value.cells, hdC]) hdone
  have hS9 := hU2.setRow (cs := hdC.toArray)
  simp only [Value.cells] at hst
  rw [show splice (#[.bool false, .int .u8 0, .int .u8 0, .int .u8 0, .int .u8 0, .int .u8 0, .int .u8 0, .int .u8 0, .int .u8 0, .int .u8 0, .int .u8 0, .int .u8 0, .int .u8 0, .int .u8 0, .int .u8 0, .int .u8 0, .int .u8 0, .bool false, .int .u8 0, .int .u8 0, .int .u8 0, .int .u8 0, .int .u8 0, .int .u8 0, .int .u8 0, .int .u8 0, .int .u8 0, .int .u8 0, .int .u8 0, .int .u8 0, .int .u8 0, .int .u8 0, .int .u8 0, .int .u8 0, .int .i64 0, .int .i64 0, .int .i64 0] : Array Value) 0 hdC.toArray.toList = hdC.toArray by rfl] at hst
  have hl9 : (Instr.loadAt 210 (.pointer (some ⟨q, 0, none⟩))).run Tryz.prog (u2.setRow q hdC.toArray) = .ok (.agg hdC.toArray) (u2.setRow q hdC.toArray) :=
    run_loadAt_row (cs := hdC) hS9.heap Tryz.underlying210 rfl (by kernel_rfl) (fun j u hu => by simpa using hu)
  have HF := Lib.hid hS9.drop
  clear hS9 hU1 hU2 hS5
  refine ord_store rfl rfl rfl rfl (p := .pointer (some ⟨q, 0, none⟩)) (v := .agg hdC.toArray) rfl rfl hst (fun _ => True) trivial ?_
  iterate 1 (refine ord_pure rfl rfl rfl (fun K' hK => ?_); go_big_quiet_op; refine hK _ ?_; clear hK K')
  refine ord_nil ?_
  go_wp2_with fail
  refine ret_cell_tmp rfl rfl rfl hl9 rfl ⟨rfl, HF.out⟩
end Go.Proofs.YtdcekoocnoackaaGreatDoor
