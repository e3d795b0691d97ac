import Derived.Test.YtepaanpdjadakaaGreatDoorFlo6
import Derived.Test.YtepaanpdjadakaaGreatDoorBaseP
import Derived.Test.YtepaanpdjadakaaGreatDoorSeq
import Derived.Deep.Cut
/-! Ways of the statements of layer 26. -/
namespace Go.Proofs.YtepaanpdjadakaaGreatDoor
open Go Go.RowKit

def wayP (i : Int) : Int := if IntKind.u64.wrap i % 6 = 0 then 6 else if IntKind.u64.wrap i % 6 = 1 then 6 else if IntKind.u64.wrap i % 6 = 2 then 17 else if IntKind.u64.wrap i % 6 = 3 then 1 else if IntKind.u64.wrap i % 6 = 4 then 58 else 99
def wayS (i : Int) : Int := IntKind.u64.wrap i / 6 % 3
def tupP (p s : Int) : Tup := ⟨zAdr, zAdr, p, s, 0⟩
def wayT (i : Int) : Tup := tupP (wayP i) (wayS i)
theorem tupP_lit (p s : Int) : (tupP p s).enc.toArray = #[.bool false, .int .u8 0, .int .u8 0, .int .u8 0, .int .u8 0, .int .u8 0, .int .u8 0, .int .u8 0, .int .u8 0, .int .u8 0, .int .u8 0, .int .u8 0, .int .u8 0, .int .u8 0, .int .u8 0, .int .u8 0, .int .u8 0, .bool false, .int .u8 0, .int .u8 0, .int .u8 0, .int .u8 0, .int .u8 0, .int .u8 0, .int .u8 0, .int .u8 0, .int .u8 0, .int .u8 0, .int .u8 0, .int .u8 0, .int .u8 0, .int .u8 0, .int .u8 0, .int .u8 0, .int .i64 p, .int .i64 s, .int .i64 0] := rfl
theorem way_built (p s : Int) : Tryz.prog.built 37 [(2, .int .i64 p), (3, .int .i64 s)] = some (tupP p s).enc.toArray := by kernel_rfl
theorem u64_bd (i : Int) : 0 ≤ IntKind.u64.wrap i ∧ IntKind.u64.wrap i ≤ 18446744073709551615 := by
  simp only [IntKind.wrap, IntKind.bits, IntKind.signed]; simp; omega
theorem tup_store (q : Tup) (W : World) (z : Array Value) (hz : z.size = 37) : (Instr.storeAt 37 (.pointer (some ⟨W.heap.size, 0, none⟩)) (.agg q.enc.toArray)).run Tryz.prog (W.alloc (.cells z 37)) = .ok () (W.alloc (.cells q.enc.toArray 37)) :=
  run_storeAt_new (v := .agg q.enc.toArray) (by simp only [Value.cells, List.size_toArray, Tup.enc_length]; kernel_rfl) (by simp only [Value.cells, List.size_toArray, Tup.enc_length]; exact hz) (by simpa [Value.cells] using q.enc_one)
theorem tup_storeS {B : Nat} {w0 : World} {F : HP} (q : Tup) {W : World} {x : Nat} {cur : Array Value} (hS : Sat B w0 W (blk x (.cells cur 37) • F)) (hc : cur.size = 37) : ∃ W', (Instr.storeAt 37 (.pointer (some ⟨x, 0, none⟩)) (.agg q.enc.toArray)).run Tryz.prog W = .ok () W' ∧ Sat B w0 W' (blk x (.cells q.enc.toArray 37) • F) := by
  have hst := run_storeAt_row (P := Tryz.prog) (o := 0) (ty := 37) (v := .agg q.enc.toArray) hS.heap (by simp only [Value.cells, List.size_toArray, Tup.enc_length]; kernel_rfl) (by simp [Value.cells, hc, Tup.enc_length]) (by simpa [Value.cells] using q.enc_one)
  have hS2 := hS.setRow (cs := splice cur 0 (Value.agg q.enc.toArray).cells.toList)
  refine ⟨_, hst, ?_⟩
  rw [splice_all (by simp [Value.cells, hc, Tup.enc_length])] at hS2 ⊢
  exact hS2
set_option maxRecDepth 8000 in
set_option maxHeartbeats 4000000 in
theorem way_of (i p s : Int) (m : Nat) (hm : IntKind.u64.wrap i % 6 = m) (hs : IntKind.u64.wrap i / 6 % 3 = s) (hp : (m = 0 ∧ p = 6) ∨ (m = 1 ∧ p = 6) ∨ (m = 2 ∧ p = 17) ∨ (m = 3 ∧ p = 1) ∨ (m = 4 ∧ p = 58) ∨ (m = 5 ∧ p = 99)) (w : World) :
    Calls Tryz.prog 6 #[.int .i64 i] w fun e w' => e = .returned (.agg (tupP p s).enc.toArray) ∧ Below w.heap.size w w' := by
  obtain ⟨u0, u1⟩ := u64_bd i
  have h1 : wrap64 ((IntKind.u64.wrap i).tmod 6) = m := by
    rw [Int.tmod_eq_emod_of_nonneg u0, hm, IntWalk.wrap64_in _ (by omega)]
  have hu : ∀ v : Int, 0 ≤ v → v ≤ 18446744073709551615 → IntKind.u64.wrap v = v := by
    intro v hv0 hv1
    simp only [IntKind.wrap, IntKind.bits, IntKind.signed]; simp; omega
  have h2 : (wrap64 (IntKind.u64.wrap ((IntKind.u64.wrap i).tdiv 6))).tmod 3 = s := by
    rw [Int.tdiv_eq_ediv_of_nonneg u0, hu _ (by omega) (by omega), IntWalk.wrap64_in _ (by omega), Int.tmod_eq_emod_of_nonneg (by omega), hs]
  clear hu
  clear hm hs u0 u1
  have hS0 := ((Sat.start w).alloc (.cells #[.bool false, .int .u8 0, .int .u8 0, .int .u8 0, .int .u8 0, .int .u8 0, .int .u8 0, .int .u8 0, .int .u8 0, .int .u8 0, .int .u8 0, .int .u8 0, .int .u8 0, .int .u8 0, .int .u8 0, .int .u8 0, .int .u8 0, .bool false, .int .u8 0, .int .u8 0, .int .u8 0, .int .u8 0, .int .u8 0, .int .u8 0, .int .u8 0, .int .u8 0, .int .u8 0, .int .u8 0, .int .u8 0, .int .u8 0, .int .u8 0, .int .u8 0, .int .u8 0, .int .u8 0, .int .i64 0, .int .i64 0, .int .i64 0] 37)).alloc_ (.cells #[.int .i64 6, .int .i64 6, .int .i64 17, .int .i64 1, .int .i64 58, .int .i64 99] 3)
  obtain ⟨W2, hst, hS2⟩ := tup_storeS (tupP p s) hS0 rfl
  have hld := run_loadAt_row (P := Tryz.prog) (o := 0) (ty := 37) (cs := (tupP p s).enc) hS2.heap Tryz.underlying37 rfl (by rw [Tup.enc_length]; kernel_rfl) (fun j u hu => by simpa using hu)
  have HB := Lib.hid hS2.below
  clear hS2 hS0
  have hcell : ∀ j v, (#[Value.int .i64 6, .int .i64 6, .int .i64 17, .int .i64 1, .int .i64 58, .int .i64 99] : Array Value)[j]? = some v → ((w.alloc (.cells #[.bool false, .int .u8 0, .int .u8 0, .int .u8 0, .int .u8 0, .int .u8 0, .int .u8 0, .int .u8 0, .int .u8 0, .int .u8 0, .int .u8 0, .int .u8 0, .int .u8 0, .int .u8 0, .int .u8 0, .int .u8 0, .int .u8 0, .bool false, .int .u8 0, .int .u8 0, .int .u8 0, .int .u8 0, .int .u8 0, .int .u8 0, .int .u8 0, .int .u8 0, .int .u8 0, .int .u8 0, .int .u8 0, .int .u8 0, .int .u8 0, .int .u8 0, .int .u8 0, .int .u8 0, .int .i64 0, .int .i64 0, .int .i64 0] 37)).alloc (.cells #[.int .i64 6, .int .i64 6, .int .i64 17, .int .i64 1, .int .i64 58, .int .i64 99] 3)).cell? ⟨w.heap.size + 1, j, none⟩ = some v := by
    intro j v hv
    have := cell_new (w := w.alloc (.cells #[.bool false, .int .u8 0, .int .u8 0, .int .u8 0, .int .u8 0, .int .u8 0, .int .u8 0, .int .u8 0, .int .u8 0, .int .u8 0, .int .u8 0, .int .u8 0, .int .u8 0, .int .u8 0, .int .u8 0, .int .u8 0, .int .u8 0, .bool false, .int .u8 0, .int .u8 0, .int .u8 0, .int .u8 0, .int .u8 0, .int .u8 0, .int .u8 0, .int .u8 0, .int .u8 0, .int .u8 0, .int .u8 0, .int .u8 0, .int .u8 0, .int .u8 0, .int .u8 0, .int .u8 0, .int .i64 0, .int .i64 0, .int .i64 0] 37)) (t := 3) (c := #[.int .i64 6, .int .i64 6, .int .i64 17, .int .i64 1, .int .i64 58, .int .i64 99]) (o := j)
    rw [World.size_alloc] at this
    rw [this, hv]
  have HC := Lib.hid hcell
  have HB1 := Lib.hid fun p' s' => way_built p' s'
  clear hcell
  generalize hW1 : (w.alloc (.cells #[.bool false, .int .u8 0, .int .u8 0, .int .u8 0, .int .u8 0, .int .u8 0, .int .u8 0, .int .u8 0, .int .u8 0, .int .u8 0, .int .u8 0, .int .u8 0, .int .u8 0, .int .u8 0, .int .u8 0, .int .u8 0, .int .u8 0, .bool false, .int .u8 0, .int .u8 0, .int .u8 0, .int .u8 0, .int .u8 0, .int .u8 0, .int .u8 0, .int .u8 0, .int .u8 0, .int .u8 0, .int .u8 0, .int .u8 0, .int .u8 0, .int .u8 0, .int .u8 0, .int .u8 0, .int .i64 0, .int .i64 0, .int .i64 0] 37)).alloc (.cells #[.int .i64 6, .int .i64 6, .int .i64 17, .int .i64 1, .int .i64 58, .int .i64 99] 3) = W1 at *
  have HW := Lib.hid hW1
  clear hW1
  rcases hp with ⟨rfl, rfl⟩ | ⟨rfl, rfl⟩ | ⟨rfl, rfl⟩ | ⟨rfl, rfl⟩ | ⟨rfl, rfl⟩ | ⟨rfl, rfl⟩
  · rw [show ((0 : Nat) : Int) = 0 from rfl] at h1
    go_enter Tryz.func6, Tryz.ntmps6
    go_upto_region 2 with (fail)
    try rw [HW.out]
    refine wp_region_seq [(0, .pure), (1, .pure), (2, .pure), (3, .pure), (4, .pure), (5, .pure), (6, .quiet), (7, .pure), (8, .pure), (9, .pure), (10, .pure), (11, .pure), (12, .pure), (13, .seals)] (by kernel_rfl)
      (fun w' => w' = W1) rfl ?_
    iterate 6 (refine ord_pure rfl rfl rfl (fun K' hK => ?_); go_big_quiet_op; refine hK _ ?_; clear hK K')
    refine ord_load (t := 3) rfl rfl rfl (p := .pointer (some ⟨w.heap.size + 1, 0, none⟩)) (v := .int .i64 6) rfl (fun w' hC => load_one Tryz.underlying3 rfl (hC ▸ HC.out 0 _ rfl)) (fun K' hK => ?_)
    go_simp
    refine hK _ ?_
    clear hK K'
    iterate 5 (refine ord_pure rfl rfl rfl (fun K' hK => ?_); go_big_quiet_op; refine hK _ ?_; clear hK K')
    refine ord_run (v := .agg (tupP 6 s).enc.toArray) rfl rfl (exec_build2 rfl (u := .int .i64 6) (v := .int .i64 s) rfl rfl (HB1.out _ _)) (fun K' hK => ?_)
    go_simp
    refine hK _ ?_
    clear hK K'
    refine ord_store rfl rfl rfl rfl (p := .pointer (some ⟨w.heap.size, 0, none⟩)) (v := .agg (tupP 6 s).enc.toArray) rfl rfl hst (fun _ => True) trivial ?_
    refine ord_nil ?_
    go_wp2_with fail
    refine ret_cell rfl rfl hld rfl ?_
    exact ⟨rfl, HB.out⟩
  · rw [show ((1 : Nat) : Int) = 1 from rfl] at h1
    go_enter Tryz.func6, Tryz.ntmps6
    go_upto_region 2 with (fail)
    try rw [HW.out]
    refine wp_region_seq [(0, .pure), (1, .pure), (2, .pure), (3, .pure), (4, .pure), (5, .pure), (6, .quiet), (7, .pure), (8, .pure), (9, .pure), (10, .pure), (11, .pure), (12, .pure), (13, .seals)] (by kernel_rfl)
      (fun w' => w' = W1) rfl ?_
    iterate 6 (refine ord_pure rfl rfl rfl (fun K' hK => ?_); go_big_quiet_op; refine hK _ ?_; clear hK K')
    refine ord_load (t := 3) rfl rfl rfl (p := .pointer (some ⟨w.heap.size + 1, 1, none⟩)) (v := .int .i64 6) rfl (fun w' hC => load_one Tryz.underlying3 rfl (hC ▸ HC.out 1 _ rfl)) (fun K' hK => ?_)
    go_simp
    refine hK _ ?_
    clear hK K'
    iterate 5 (refine ord_pure rfl rfl rfl (fun K' hK => ?_); go_big_quiet_op; refine hK _ ?_; clear hK K')
    refine ord_run (v := .agg (tupP 6 s).enc.toArray) rfl rfl (exec_build2 rfl (u := .int .i64 6) (v := .int .i64 s) rfl rfl (HB1.out _ _)) (fun K' hK => ?_)
    go_simp
    refine hK _ ?_
    clear hK K'
    refine ord_store rfl rfl rfl rfl (p := .pointer (some ⟨w.heap.size, 0, none⟩)) (v := .agg (tupP 6 s).enc.toArray) rfl rfl hst (fun _ => True) trivial ?_
    refine ord_nil ?_
    go_wp2_with fail
    refine ret_cell rfl rfl hld rfl ?_
    exact ⟨rfl, HB.out⟩
  · rw [show ((2 : Nat) : Int) = 2 from rfl] at h1
    go_enter Tryz.func6, Tryz.ntmps6
    go_upto_region 2 with (fail)
    try rw [HW.out]
    refine wp_region_seq [(0, .pure), (1, .pure), (2, .pure), (3, .pure), (4, .pure), (5, .pure), (6, .quiet), (7, .pure), (8, .pure), (9, .pure), (10, .pure), (11, .pure), (12, .pure), (13, .seals)] (by kernel_rfl)
      (fun w' => w' = W1) rfl ?_
    iterate 6 (refine ord_pure rfl rfl rfl (fun K' hK => ?_); go_big_quiet_op; refine hK _ ?_; clear hK K')
    refine ord_load (t := 3) rfl rfl rfl (p := .pointer (some ⟨w.heap.size + 1, 2, none⟩)) (v := .int .i64 17) rfl (fun w' hC => load_one Tryz.underlying3 rfl (hC ▸ HC.out 2 _ rfl)) (fun K' hK => ?_)
    go_simp
    refine hK _ ?_
    clear hK K'
    iterate 5 (refine ord_pure rfl rfl rfl (fun K' hK => ?_); go_big_quiet_op; refine hK _ ?_; clear hK K')
    refine ord_run (v := .agg (tupP 17 s).enc.toArray) rfl rfl (exec_build2 rfl (u := .int .i64 17) (v := .int .i64 s) rfl rfl (HB1.out _ _)) (fun K' hK => ?_)
    go_simp
    refine hK _ ?_
    clear hK K'
    refine ord_store rfl rfl rfl rfl (p := .pointer (some ⟨w.heap.size, 0, none⟩)) (v := .agg (tupP 17 s).enc.toArray) rfl rfl hst (fun _ => True) trivial ?_
    refine ord_nil ?_
    go_wp2_with fail
    refine ret_cell rfl rfl hld rfl ?_
    exact ⟨rfl, HB.out⟩
  · rw [show ((3 : Nat) : Int) = 3 from rfl] at h1
    go_enter Tryz.func6, Tryz.ntmps6
    go_upto_region 2 with (fail)
    try rw [HW.out]
    refine wp_region_seq [(0, .pure), (1, .pure), (2, .pure), (3, .pure), (4, .pure), (5, .pure), (6, .quiet), (7, .pure), (8, .pure), (9, .pure), (10, .pure), (11, .pure), (12, .pure), (13, .seals)] (by kernel_rfl)
      (fun w' => w' = W1) rfl ?_
    iterate 6 (refine ord_pure rfl rfl rfl (fun K' hK => ?_); go_big_quiet_op; refine hK _ ?_; clear hK K')
    refine ord_load (t := 3) rfl rfl rfl (p := .pointer (some ⟨w.heap.size + 1, 3, none⟩)) (v := .int .i64 1) rfl (fun w' hC => load_one Tryz.underlying3 rfl (hC ▸ HC.out 3 _ rfl)) (fun K' hK => ?_)
    go_simp
    refine hK _ ?_
    clear hK K'
    iterate 5 (refine ord_pure rfl rfl rfl (fun K' hK => ?_); go_big_quiet_op; refine hK _ ?_; clear hK K')
    refine ord_run (v := .agg (tupP 1 s).enc.toArray) rfl rfl (exec_build2 rfl (u := .int .i64 1) (v := .int .i64 s) rfl rfl (HB1.out _ _)) (fun K' hK => ?_)
    go_simp
    refine hK _ ?_
    clear hK K'
    refine ord_store rfl rfl rfl rfl (p := .pointer (some ⟨w.heap.size, 0, none⟩)) (v := .agg (tupP 1 s).enc.toArray) rfl rfl hst (fun _ => True) trivial ?_
    refine ord_nil ?_
    go_wp2_with fail
    refine ret_cell rfl rfl hld rfl ?_
    exact ⟨rfl, HB.out⟩
  · rw [show ((4 : Nat) : Int) = 4 from rfl] at h1
    go_enter Tryz.func6, Tryz.ntmps6
    go_upto_region 2 with (fail)
    try rw [HW.out]
    refine wp_region_seq [(0, .pure), (1, .pure), (2, .pure), (3, .pure), (4, .pure), (5, .pure), (6, .quiet), (7, .pure), (8, .pure), (9, .pure), (10, .pure), (11, .pure), (12, .pure), (13, .seals)] (by kernel_rfl)
      (fun w' => w' = W1) rfl ?_
    iterate 6 (refine ord_pure rfl rfl rfl (fun K' hK => ?_); go_big_quiet_op; refine hK _ ?_; clear hK K')
    refine ord_load (t := 3) rfl rfl rfl (p := .pointer (some ⟨w.heap.size + 1, 4, none⟩)) (v := .int .i64 58) rfl (fun w' hC => load_one Tryz.underlying3 rfl (hC ▸ HC.out 4 _ rfl)) (fun K' hK => ?_)
    go_simp
    refine hK _ ?_
    clear hK K'
    iterate 5 (refine ord_pure rfl rfl rfl (fun K' hK => ?_); go_big_quiet_op; refine hK _ ?_; clear hK K')
    refine ord_run (v := .agg (tupP 58 s).enc.toArray) rfl rfl (exec_build2 rfl (u := .int .i64 58) (v := .int .i64 s) rfl rfl (HB1.out _ _)) (fun K' hK => ?_)
    go_simp
    refine hK _ ?_
    clear hK K'
    refine ord_store rfl rfl rfl rfl (p := .pointer (some ⟨w.heap.size, 0, none⟩)) (v := .agg (tupP 58 s).enc.toArray) rfl rfl hst (fun _ => True) trivial ?_
    refine ord_nil ?_
    go_wp2_with fail
    refine ret_cell rfl rfl hld rfl ?_
    exact ⟨rfl, HB.out⟩
  · rw [show ((5 : Nat) : Int) = 5 from rfl] at h1
    go_enter Tryz.func6, Tryz.ntmps6
    go_upto_region 2 with (fail)
    try rw [HW.out]
    refine wp_region_seq [(0, .pure), (1, .pure), (2, .pure), (3, .pure), (4, .pure), (5, .pure), (6, .quiet), (7, .pure), (8, .pure), (9, .pure), (10, .pure), (11, .pure), (12, .pure), (13, .seals)] (by kernel_rfl)
      (fun w' => w' = W1) rfl ?_
    iterate 6 (refine ord_pure rfl rfl rfl (fun K' hK => ?_); go_big_quiet_op; refine hK _ ?_; clear hK K')
    refine ord_load (t := 3) rfl rfl rfl (p := .pointer (some ⟨w.heap.size + 1, 5, none⟩)) (v := .int .i64 99) rfl (fun w' hC => load_one Tryz.underlying3 rfl (hC ▸ HC.out 5 _ rfl)) (fun K' hK => ?_)
    go_simp
    refine hK _ ?_
    clear hK K'
    iterate 5 (refine ord_pure rfl rfl rfl (fun K' hK => ?_); go_big_quiet_op; refine hK _ ?_; clear hK K')
    refine ord_run (v := .agg (tupP 99 s).enc.toArray) rfl rfl (exec_build2 rfl (u := .int .i64 99) (v := .int .i64 s) rfl rfl (HB1.out _ _)) (fun K' hK => ?_)
    go_simp
    refine hK _ ?_
    clear hK K'
    refine ord_store rfl rfl rfl rfl (p := .pointer (some ⟨w.heap.size, 0, none⟩)) (v := .agg (tupP 99 s).enc.toArray) rfl rfl hst (fun _ => True) trivial ?_
    refine ord_nil ?_
    go_wp2_with fail
    refine ret_cell rfl rfl hld rfl ?_
    exact ⟨rfl, HB.out⟩
end Go.Proofs.YtepaanpdjadakaaGreatDoor
