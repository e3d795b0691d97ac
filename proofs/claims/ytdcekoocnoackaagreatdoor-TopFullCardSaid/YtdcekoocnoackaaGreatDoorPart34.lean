import Derived.Test.YtdcekoocnoackaaGreatDoorPart32
import Derived.Test.YtdcekoocnoackaaGreatDoorPart33
import Derived.Lib.MinMax
import Derived.Test.YtdcekoocnoackaaGreatDoorPart30

/-! firewall.New. -/
namespace Go.Proofs.YtdcekoocnoackaaGreatDoor
open Go Go.RowKit

set_option maxRecDepth 8000 in
theorem held_0 (w : World) : Calls Tryz.prog 14 #[.int .i64 0] w fun e w' => e = .returned (.int .i64 1) ∧ w' = w := by
  go_enter Tryz.func14, Tryz.ntmps14
  go_wp2_with fail
  go_ret
  exact ⟨rfl, rfl⟩
set_option maxRecDepth 8000 in
theorem held_in (n : Int) (h1 : 1 ≤ n) (h2 : n ≤ 1000) (w : World) : Calls Tryz.prog 14 #[.int .i64 n] w fun e w' => e = .returned (.int .i64 n) ∧ w' = w := by
  have e1 : max n 1 = n := by omega
  have e2 : min n 1000 = n := by omega
  go_enter Tryz.func14, Tryz.ntmps14
  go_wp2_with fail
  go_ret
  exact ⟨rfl, rfl⟩
theorem ckNew {B : Nat} {w0 w : World} {F : HP} (h : Sat B w0 w F) : Calls Tryz.prog 15 #[] w fun e w' => ∃ ck : Nat, e = .returned (.pointer (some ⟨ck, 0, none⟩)) ∧ Sat B w0 w' (blk ck (.cells #[.int .u64 0] 105) • F) := by
  have hS := h.alloc (.cells #[.int .u64 0] 105)
  go_enter Tryz.func15, Tryz.ntmps15
  go_wp2_with fail
  go_ret
  exact ⟨_, rfl, hS⟩
theorem pdNew {B : Nat} {w0 w : World} {F : HP} (n : Int) (h : Sat B w0 w F) : Calls Tryz.prog 16 #[.int .i64 n] w fun e w' => ∃ t : Nat, e = .returned (.pointer (some ⟨t, 0, none⟩)) ∧ Sat B w0 w' F := by
  have c1 := qNew_any n h
  clear h
  go_enter Tryz.func16, Tryz.ntmps16
  go_wp2_with fail
  refine c1.mono ?_
  rintro e w1 ⟨q, rfl, hS1⟩
  have HS := Lib.hid (hS1.drop.alloc_ (.cells #[.slice none 0 0, .pointer (some ⟨q, 0, none⟩), .int .i64 0] 110))
  clear c1 hS1
  go_wp2_with fail
  go_ret
  exact ⟨_, rfl, HS.out⟩
theorem fcNew {B : Nat} {w0 w : World} {F : HP} (n : Int) (h : Sat B w0 w F) : Calls Tryz.prog 18 #[.int .i64 n] w fun e w' => ∃ t : Nat, e = .returned (.pointer (some ⟨t, 0, none⟩)) ∧ Sat B w0 w' F := by
  have c1 := qNew_any n h
  clear h
  go_enter Tryz.func18, Tryz.ntmps18
  go_wp2_with fail
  refine c1.mono ?_
  rintro e w1 ⟨q, rfl, hS1⟩
  have HS := Lib.hid (hS1.drop.alloc_ (.cells #[.slice none 0 0, .pointer (some ⟨q, 0, none⟩), .int .i64 0] 116))
  clear c1 hS1
  go_wp2_with fail
  go_ret
  exact ⟨_, rfl, HS.out⟩
theorem stNew {B : Nat} {w0 w : World} {F : HP} (h : Sat B w0 w F) : Calls Tryz.prog 17 #[.int .i64 1] w fun e w' => ∃ t : Nat, e = .returned (.pointer (some ⟨t, 0, none⟩)) ∧ Sat B w0 w' F := by
  have hmk : (Instr.makeMap 111 none).run Tryz.prog w = .ok (.map (some w.heap.size)) (w.alloc (.map #[] 0)) := by kernel_rfl
  have HS := Lib.hid ((h.alloc_ (.map #[] 0)).alloc_ (.cells #[.map (some w.heap.size), .int .i64 1] 113))
  clear h
  go_enter Tryz.func17, Tryz.ntmps17
  go_wp2_with fail
  go_ret
  exact ⟨_, rfl, HS.out⟩
/-- A firewall's own cells. -/
def fwB (pol ck pd st fc fl : Nat) (k : Int) : Obj := .cells #[.pointer (some ⟨pol, 0, none⟩), .pointer (some ⟨ck, 0, none⟩), .pointer (some ⟨pd, 0, none⟩), .pointer (some ⟨st, 0, none⟩), .pointer (some ⟨fc, 0, none⟩), .pointer (some ⟨fl, 0, none⟩), .int .i64 1, .int .i64 1, .int .i64 1, .int .i64 k] 73
attribute [local irreducible] wpOrd
set_option maxRecDepth 8000 in
set_option maxHeartbeats 4000000 in
theorem fwNew_any {B : Nat} {w0 w : World} {F : HP} {m k : Int} (hk : ∀ w, Calls Tryz.prog 14 #[.int .i64 m] w fun e w' => e = .returned (.int .i64 k) ∧ w' = w) (hB : 1 < B) (hM : Mx w0) (hE : Et w0) (h : Sat B w0 w F) :
    Calls Tryz.prog 4 #[.agg #[.int .i64 0, .int .i64 0, .int .i64 0, .int .i64 m], .string plainB] w fun e w' => ∃ fw pol ck pd st fc fl : Nat, e = .returned (.tuple #[.pointer (some ⟨fw, 0, none⟩), .nilIface]) ∧ Sat B w0 w' (blk fw (fwB pol ck pd st fc fl k) • blk ck (.cells #[.int .u64 0] 105) • policyH pol • fltab fl (roomOf k) [] 0 • F) := by
  have hS1 := h.alloc (.cells #[.int .i64 0, .int .i64 0, .int .i64 0, .int .i64 m] 29)
  have c1 := pparse_any hB hM hE hS1
  generalize hcb : w.heap.size = cb at *
  clear h hS1
  generalize plainB = TXT at *
  go_enter Tryz.func4, Tryz.ntmps4
  go_wp2_with fail
  refine c1.mono ?_
  rintro e w2 ⟨pol, rfl, hS2⟩
  clear c1
  have hS3 := hS2.alloc_ (.cells #[.int .i64 0] 58)
  clear hS2
  go_wp2_with fail
  refine (as_nil _ _).mono ?_
  rintro e w3 ⟨rfl, rfl⟩
  have hS5 := hS3.pull2
  clear hS3
  go_wp2_with fail
  try go_frame
  generalize w2.alloc (.cells #[.int .i64 0] 58) = w4 at *
  have hst := run_storeAt_row (P := Tryz.prog) (o := 0) (ty := 29) (v := .agg #[.int .i64 1, .int .i64 1, .int .i64 1, .int .i64 k]) hS5.drew.heap (by kernel_rfl) (by simp [Value.cells]) (by simp [Value.cells, Value.oneCell'])
  have hS6 := hS5.drew.setRow (cs := #[.int .i64 1, .int .i64 1, .int .i64 1, .int .i64 k])
  simp only [Value.cells] at hst
  rw [show splice (#[.int .i64 0, .int .i64 0, .int .i64 0, .int .i64 m] : Array Value) 0 (#[.int .i64 1, .int .i64 1, .int .i64 1, .int .i64 k] : Array Value).toList = #[.int .i64 1, .int .i64 1, .int .i64 1, .int .i64 k] by rfl] at hst
  refine wp_region_ord [(0, .pure), (1, .quiet), (3, .pure), (4, .quiet), (6, .pure), (7, .quiet), (9, .pure), (10, .quiet), (2, .acts), (5, .acts), (8, .acts), (11, .acts), (12, .pure), (13, .seals)] (by kernel_rfl) (by kernel_rfl)
    (fun w' => w'.heap[cb]? = some (.cells #[.int .i64 0, .int .i64 0, .int .i64 0, .int .i64 m] 29)) hS5.drew.heap ?_
  iterate 1 (refine ord_pure rfl rfl rfl (fun K' hK => ?_); go_big_quiet_op; refine hK _ ?_; clear hK K')
  refine ord_load (t := 3) rfl rfl rfl (p := .pointer (some ⟨cb, 0, none⟩)) (v := .int .i64 0) rfl (fun w' hC => run_loadAt_one hC Tryz.underlying3 rfl rfl) (fun K' hK => ?_)
  go_simp
  refine hK _ ?_
  clear hK K'
  iterate 1 (refine ord_pure rfl rfl rfl (fun K' hK => ?_); go_big_quiet_op; refine hK _ ?_; clear hK K')
  refine ord_load (t := 3) rfl rfl rfl (p := .pointer (some ⟨cb, 1, none⟩)) (v := .int .i64 0) rfl (fun w' hC => run_loadAt_one hC Tryz.underlying3 rfl rfl) (fun K' hK => ?_)
  go_simp
  refine hK _ ?_
  clear hK K'
  iterate 1 (refine ord_pure rfl rfl rfl (fun K' hK => ?_); go_big_quiet_op; refine hK _ ?_; clear hK K')
  refine ord_load (t := 3) rfl rfl rfl (p := .pointer (some ⟨cb, 2, none⟩)) (v := .int .i64 0) rfl (fun w' hC => run_loadAt_one hC Tryz.underlying3 rfl rfl) (fun K' hK => ?_)
  go_simp
  refine hK _ ?_
  clear hK K'
  iterate 1 (refine ord_pure rfl rfl rfl (fun K' hK => ?_); go_big_quiet_op; refine hK _ ?_; clear hK K')
  refine ord_load (t := 3) rfl rfl rfl (p := .pointer (some ⟨cb, 3, none⟩)) (v := .int .i64 m) rfl (fun w' hC => run_loadAt_one hC Tryz.underlying3 rfl rfl) (fun K' hK => ?_)
  go_simp
  refine hK _ ?_
  clear hK K'
  refine ord_acts rfl rfl (fun K' hK => ?_)
  go_simp
  refine (held_0 _).mono ?_
  rintro e v1 ⟨rfl, rfl⟩
  refine hK _ _ (hS5.drew.heap) ?_
  clear hK K'
  go_simp
  refine ord_acts rfl rfl (fun K' hK => ?_)
  go_simp
  refine (held_0 _).mono ?_
  rintro e v1 ⟨rfl, rfl⟩
  refine hK _ _ (hS5.drew.heap) ?_
  clear hK K'
  go_simp
  refine ord_acts rfl rfl (fun K' hK => ?_)
  go_simp
  refine (held_0 _).mono ?_
  rintro e v1 ⟨rfl, rfl⟩
  refine hK _ _ (hS5.drew.heap) ?_
  clear hK K'
  go_simp
  refine ord_acts rfl rfl (fun K' hK => ?_)
  go_simp
  refine (hk _).mono ?_
  rintro e v1 ⟨rfl, rfl⟩
  refine hK _ _ (hS5.drew.heap) ?_
  clear hK K'
  go_simp
  refine ord_run (v := .agg #[.int .i64 1, .int .i64 1, .int .i64 1, .int .i64 k]) rfl rfl (exec_build rfl (vs := [(0, .int .i64 1), (1, .int .i64 1), (2, .int .i64 1), (3, .int .i64 k)]) (by simp [Act.eval]) (by kernel_rfl)) (fun K' hK => ?_)
  go_simp
  refine hK _ ?_
  clear hK K'
  refine ord_store rfl rfl rfl rfl (p := .pointer (some ⟨cb, 0, none⟩)) (v := .agg #[.int .i64 1, .int .i64 1, .int .i64 1, .int .i64 k]) rfl rfl hst (fun _ => True) trivial ?_
  refine ord_nil ?_
  clear hst
  go_wp2_with fail
  try go_frame
  have hS7 := hS6.drew
  refine wp_region_ord [(0, .pure), (2, .pure), (3, .quiet), (5, .pure), (6, .quiet), (8, .pure), (9, .quiet), (11, .pure), (12, .quiet), (14, .quiet), (1, .acts), (4, .acts), (7, .acts), (10, .acts), (13, .acts), (15, .pure), (16, .acts), (17, .pure), (18, .pure)] (by kernel_rfl) (by kernel_rfl)
    (fun w' => w'.heap[cb]? = some (.cells #[.int .i64 1, .int .i64 1, .int .i64 1, .int .i64 k] 29)) hS7.heap ?_
  iterate 2 (refine ord_pure rfl rfl rfl (fun K' hK => ?_); go_big_quiet_op; refine hK _ ?_; clear hK K')
  refine ord_load (t := 3) rfl rfl rfl (p := .pointer (some ⟨cb, 0, none⟩)) (v := .int .i64 1) rfl (fun w' hC => run_loadAt_one hC Tryz.underlying3 rfl rfl) (fun K' hK => ?_)
  go_simp
  refine hK _ ?_
  clear hK K'
  iterate 1 (refine ord_pure rfl rfl rfl (fun K' hK => ?_); go_big_quiet_op; refine hK _ ?_; clear hK K')
  refine ord_load (t := 3) rfl rfl rfl (p := .pointer (some ⟨cb, 1, none⟩)) (v := .int .i64 1) rfl (fun w' hC => run_loadAt_one hC Tryz.underlying3 rfl rfl) (fun K' hK => ?_)
  go_simp
  refine hK _ ?_
  clear hK K'
  iterate 1 (refine ord_pure rfl rfl rfl (fun K' hK => ?_); go_big_quiet_op; refine hK _ ?_; clear hK K')
  refine ord_load (t := 3) rfl rfl rfl (p := .pointer (some ⟨cb, 2, none⟩)) (v := .int .i64 1) rfl (fun w' hC => run_loadAt_one hC Tryz.underlying3 rfl rfl) (fun K' hK => ?_)
  go_simp
  refine hK _ ?_
  clear hK K'
  iterate 1 (refine ord_pure rfl rfl rfl (fun K' hK => ?_); go_big_quiet_op; refine hK _ ?_; clear hK K')
  refine ord_load (t := 3) rfl rfl rfl (p := .pointer (some ⟨cb, 3, none⟩)) (v := .int .i64 k) rfl (fun w' hC => run_loadAt_one hC Tryz.underlying3 rfl rfl) (fun K' hK => ?_)
  go_simp
  refine hK _ ?_
  clear hK K'
  refine ord_load (t := 29) rfl rfl rfl (p := .pointer (some ⟨cb, 0, none⟩)) (v := .agg #[.int .i64 1, .int .i64 1, .int .i64 1, .int .i64 k]) rfl (fun w' hC => run_loadAt_row (cs := [.int .i64 1, .int .i64 1, .int .i64 1, .int .i64 k]) hC Tryz.underlying29 rfl (by kernel_rfl) (fun j u hu => by simpa using hu)) (fun K' hK => ?_)
  go_simp
  refine hK _ ?_
  clear hK K'
  refine ord_acts rfl rfl (fun K' hK => ?_)
  go_simp
  refine (ckNew hS7).mono ?_
  rintro e u1 ⟨ck, rfl, hU1⟩
  refine hK _ _ (hU1.pull2.heap) ?_
  clear hK K'
  go_simp
  refine ord_acts rfl rfl (fun K' hK => ?_)
  go_simp
  refine (pdNew 1 hU1).mono ?_
  rintro e u2 ⟨pd, rfl, hU2⟩
  refine hK _ _ (hU2.pull2.heap) ?_
  clear hK K'
  go_simp
  refine ord_acts rfl rfl (fun K' hK => ?_)
  go_simp
  refine (stNew hU2).mono ?_
  rintro e u3 ⟨st, rfl, hU3⟩
  refine hK _ _ (hU3.pull2.heap) ?_
  clear hK K'
  go_simp
  refine ord_acts rfl rfl (fun K' hK => ?_)
  go_simp
  refine (fcNew 1 hU3).mono ?_
  rintro e u4 ⟨fc, rfl, hU4⟩
  refine hK _ _ (hU4.pull2.heap) ?_
  clear hK K'
  go_simp
  refine ord_acts rfl rfl (fun K' hK => ?_)
  go_simp
  refine (flNew_any k hU4).mono ?_
  rintro e u5 ⟨fl, rfl, hU5⟩
  refine hK _ _ (hU5.pull3.heap) ?_
  clear hK K'
  go_simp
  refine ord_run (v := .agg #[.pointer (some ⟨pol, 0, none⟩), .pointer (some ⟨ck, 0, none⟩), .pointer (some ⟨pd, 0, none⟩), .pointer (some ⟨st, 0, none⟩), .pointer (some ⟨fc, 0, none⟩), .pointer (some ⟨fl, 0, none⟩), .int .i64 1, .int .i64 1, .int .i64 1, .int .i64 k]) rfl rfl (exec_build rfl (vs := [(0, .pointer (some ⟨pol, 0, none⟩)), (1, .pointer (some ⟨ck, 0, none⟩)), (2, .pointer (some ⟨pd, 0, none⟩)), (3, .pointer (some ⟨st, 0, none⟩)), (4, .pointer (some ⟨fc, 0, none⟩)), (5, .pointer (some ⟨fl, 0, none⟩)), (6, .agg #[.int .i64 1, .int .i64 1, .int .i64 1, .int .i64 k])]) (by simp [Act.eval]) (by kernel_rfl)) (fun K' hK => ?_)
  go_simp
  refine hK _ ?_
  clear hK K'
  have hU6 := hU5.alloc (.cells #[.pointer (some ⟨pol, 0, none⟩), .pointer (some ⟨ck, 0, none⟩), .pointer (some ⟨pd, 0, none⟩), .pointer (some ⟨st, 0, none⟩), .pointer (some ⟨fc, 0, none⟩), .pointer (some ⟨fl, 0, none⟩), .int .i64 1, .int .i64 1, .int .i64 1, .int .i64 k] 73)
  refine ord_acts rfl rfl (fun K' hK => wp_box_w rfl rfl (hK _ _ hU6.pull4.heap ?_))
  clear hK K'
  go_simp
  iterate 2 (refine ord_pure rfl rfl rfl (fun K' hK => ?_); go_big_quiet_op; refine hK _ ?_; clear hK K')
  refine ord_nil ?_
  have hfin : Sat B w0 _ (blk u5.heap.size (fwB pol ck pd st fc fl k) • blk ck (.cells #[.int .u64 0] 105) • policyH pol • fltab fl (roomOf k) [] 0 • F) :=
    (hU6.to (by unfold fwB; ac_rfl : _ = blk cb (.cells #[.int .i64 1, .int .i64 1, .int .i64 1, .int .i64 k] 29) • (blk u5.heap.size (fwB pol ck pd st fc fl k) • blk ck (.cells #[.int .u64 0] 105) • policyH pol • fltab fl (roomOf k) [] 0 • F))).drop
  clear hU1 hU2 hU3 hU4 hU5 hU6 hS7 hS6 hS5
  go_wp2_with fail
  go_ret2
  exact ⟨_, pol, ck, pd, st, fc, fl, rfl, hfin⟩
end Go.Proofs.YtdcekoocnoackaaGreatDoor

/-! The reference's BuildUdp. -/
namespace Go.Proofs.YtdcekoocnoackaaGreatDoor
open Go Go.RowKit

theorem ret_tmp_cell {P : Program} {w : World} {fn : Func} {R : Ending → World → Prop} {a : Act} {p u : Tmp} {ty : TypeId} {d : Addr} {v x : Value} (h : fn.results = #[.tmp u, .cell p ty]) (hp : a.tmps.getD p undef = .pointer (some d)) (hu : a.tmps.getD u undef = x)
    (hl : (Instr.loadAt ty (.pointer (some d))).run P w = .ok v w) (hd : a.defers = []) (hR : R (.returned (.tuple #[x, v])) w) : bodyPost P fn R .ret a w := by
  refine bodyPost_ret (v := .tuple #[x, v]) ?_ hd hR
  have hp' : a.tmps[p]?.getD undef = .pointer (some d) := by simpa using hp
  have hu' : a.tmps[u]?.getD undef = x := by simpa using hu
  simp [results, h, hp', hu', asAddr, run_loadVar_of hl]
/-- The bytes of the datagram from port p to port 6. -/
def dgrB (p : Int) : List Int := [p / 256, p % 256, 0, 6, 0, 8, (62421 - p) / 256, (62421 - p) % 256]
def failZ : Array Value := #[.int .i64 0, .int .i64 0, .bool false]
attribute [local irreducible] wpOrd
set_option maxRecDepth 8000 in
set_option maxHeartbeats 6000000 in
theorem budp_any {B : Nat} {w0 w : World} {F : HP} (p : Int) (h1 : 0 ≤ p) (h2 : p ≤ 1000) (h : Sat B w0 w F) :
    Calls Tryz.prog 36 #[.agg #[.int .i64 p, .int .i64 6, .slice none 0 0], .agg adA, .agg adB] w fun e w' => ∃ v', e = .returned (.tuple #[v', .agg failZ]) ∧ Sat B w0 w' (byt v' (dgrB p) • F) := by
  have hS4 := (((h.alloc (.cells #[.int .i64 p, .int .i64 6, .slice none 0 0] 126)).alloc (.cells adA 36)).alloc (.cells adB 36)).alloc (.cells failZ 75)
  simp only [World.size_alloc] at hS4
  have u8_zero : (Tryz.prog.info? 5).map (fun i => (i.zero, i.size)) = some (some (.int .u8 0), 1) := by kernel_rfl
  have hSA : adA.size = 17 := rfl
  have hSB : adB.size = 17 := rfl
  have hFZ : failZ = #[.int .i64 0, .int .i64 0, .bool false] := rfl
  generalize hq : w.heap.size = q at *
  generalize hA : adA = SA at *
  generalize hB' : adB = SB at *
  have hAA := Lib.hid hA
  have hBB := Lib.hid hB'
  clear hA hB'
  have d0 : ((((w.alloc (.cells #[.int .i64 p, .int .i64 6, .slice none 0 0] 126)).alloc (.cells SA 36)).alloc (.cells SB 36)).alloc (.cells failZ 75)).cell? ⟨q, 0, none⟩ = some (.int .i64 p) := cell_heap hS4.drop.drop.drop.heap rfl
  have d1 : ((((w.alloc (.cells #[.int .i64 p, .int .i64 6, .slice none 0 0] 126)).alloc (.cells SA 36)).alloc (.cells SB 36)).alloc (.cells failZ 75)).cell? ⟨q, 1, none⟩ = some (.int .i64 6) := cell_heap hS4.drop.drop.drop.heap rfl
  have d2 : ((((w.alloc (.cells #[.int .i64 p, .int .i64 6, .slice none 0 0] 126)).alloc (.cells SA 36)).alloc (.cells SB 36)).alloc (.cells failZ 75)).cell? ⟨q, 2, none⟩ = some (.slice none 0 0) := cell_heap hS4.drop.drop.drop.heap rfl
  rw [hFZ] at *
  generalize hW : (((w.alloc (.cells #[.int .i64 p, .int .i64 6, .slice none 0 0] 126)).alloc (.cells SA 36)).alloc (.cells SB 36)).alloc (.cells #[.int .i64 0, .int .i64 0, .bool false] 75) = W at *
  clear h
  go_enter Tryz.func36, Tryz.ntmps36
  go_wp2_with (go_at_call 75; refine (rport_in _ (by omega) (by omega) _).mono ?_; rintro e w1 ⟨rfl, rfl⟩)
  try go_frame
  refine wp_region_ord [(0, .pure), (1, .quiet), (3, .pure), (4, .quiet), (6, .pure), (7, .quiet), (8, .pure), (9, .pure), (2, .acts), (5, .acts), (10, .acts), (11, .pure)] (by kernel_rfl) (by kernel_rfl)
    (fun w' => w'.heap[q]? = some (.cells #[.int .i64 p, .int .i64 6, .slice none 0 0] 126)) hS4.drew.drop.drop.drop.heap ?_
  iterate 1 (refine ord_pure rfl rfl rfl (fun K' hK => ?_); go_big_quiet_op; refine hK _ ?_; clear hK K')
  refine ord_load (t := 3) rfl rfl rfl (p := .pointer (some ⟨q, 0, none⟩)) (v := .int .i64 p) rfl (fun w' hC => run_loadAt_one hC Tryz.underlying3 rfl rfl) (fun K' hK => ?_)
  go_simp
  refine hK _ ?_
  clear hK K'
  iterate 1 (refine ord_pure rfl rfl rfl (fun K' hK => ?_); go_big_quiet_op; refine hK _ ?_; clear hK K')
  refine ord_load (t := 3) rfl rfl rfl (p := .pointer (some ⟨q, 1, none⟩)) (v := .int .i64 6) rfl (fun w' hC => run_loadAt_one hC Tryz.underlying3 rfl rfl) (fun K' hK => ?_)
  go_simp
  refine hK _ ?_
  clear hK K'
  iterate 1 (refine ord_pure rfl rfl rfl (fun K' hK => ?_); go_big_quiet_op; refine hK _ ?_; clear hK K')
  refine ord_load (t := 32) rfl rfl rfl (p := .pointer (some ⟨q, 2, none⟩)) (v := .slice none 0 0) rfl (fun w' hC => run_loadAt_one hC Tryz.underlying32 rfl rfl) (fun K' hK => ?_)
  go_simp
  refine hK _ ?_
  clear hK K'
  iterate 2 (refine ord_pure rfl rfl rfl (fun K' hK => ?_); go_big_quiet_op; refine hK _ ?_; clear hK K')
  refine ord_acts rfl rfl (fun K' hK => ?_)
  go_simp
  refine (put2_any p (by omega) (by omega) (by decide) (byt_nil hS4.drew)).mono ?_
  rintro e u1 ⟨x1, rfl, hU1⟩
  refine hK _ _ (hU1.drop.drop.drop.drop.drop.heap) ?_
  clear hK K'
  go_simp
  refine ord_acts rfl rfl (fun K' hK => ?_)
  go_simp
  refine (put2_any 6 (by decide) (by decide) (by simp) hU1).mono ?_
  rintro e u2 ⟨x2, rfl, hU2⟩
  refine hK _ _ (hU2.drop.drop.drop.drop.drop.drop.heap) ?_
  clear hK K'
  go_simp
  refine ord_acts rfl rfl (fun K' hK => ?_)
  go_simp
  refine (put2_any 8 (by decide) (by decide) (by simp) hU2).mono ?_
  rintro e u3 ⟨x3, rfl, hU3⟩
  refine hK _ _ (hU3.drop.drop.drop.drop.drop.drop.drop.heap) ?_
  clear hK K'
  go_simp
  iterate 1 (refine ord_pure rfl rfl rfl (fun K' hK => ?_); go_big_quiet_op; refine hK _ ?_; clear hK K')
  refine ord_nil ?_
  have hU4 := ((hU3.pull2.drop).pull2.drop).pull2.drop
  clear hU1 hU2 hU3 d0 d1 d2 hS4
  go_wp2_with fail
  try go_frame
  refine wp_region_ord [(0, .pure), (3, .pure), (4, .quiet), (1, .acts), (2, .acts), (5, .acts), (6, .pure)] (by kernel_rfl) (by kernel_rfl)
    (fun w' => w'.heap[q]? = some (.cells #[.int .i64 p, .int .i64 6, .slice none 0 0] 126)) hU4.drew.drop.drop.drop.drop.heap ?_
  iterate 2 (refine ord_pure rfl rfl rfl (fun K' hK => ?_); go_big_quiet_op; refine hK _ ?_; clear hK K')
  refine ord_load (t := 32) rfl rfl rfl (p := .pointer (some ⟨q, 2, none⟩)) (v := .slice none 0 0) rfl (fun w' hC => run_loadAt_one hC Tryz.underlying32 rfl rfl) (fun K' hK => ?_)
  go_simp
  refine hK _ ?_
  clear hK K'
  have hZ := hU4.drew.alloc (.cells (byv [0, 0]).toArray 5)
  refine ord_acts rfl rfl (fun K' hK => wp_buildSlice_row (t := 32) rfl [.int .u8 0, .int .u8 0] rfl (by simp [Act.eval]) Tryz.underlying32 u8_zero (by simp [Value.cells]) (by decide) (by decide) (hK _ _ hZ.drop.drop.drop.drop.drop.heap ?_))
  clear hK K'
  go_simp
  obtain ⟨x5, u5, hr5, hU5⟩ := hZ.pull2.bytApp (b := [0, 0]) (reads_lit (n := 2) (c := 2) rfl) (by simp)
  refine ord_acts rfl rfl (fun K' hK => wp_append_run _ _ _ rfl rfl rfl hr5 (hK _ _ hU5.drop.drop.drop.drop.drop.heap ?_))
  clear hK K'
  go_simp
  obtain ⟨x6, u6, hr6, hU6⟩ := hU5.bytApp (b := []) (.inl ⟨0, rfl, rfl, rfl⟩) (by simp)
  refine ord_acts rfl rfl (fun K' hK => wp_append_run _ _ _ rfl rfl rfl hr6 (hK _ _ hU6.drop.drop.drop.drop.drop.heap ?_))
  clear hK K'
  go_simp
  iterate 1 (refine ord_pure rfl rfl rfl (fun K' hK => ?_); go_big_quiet_op; refine hK _ ?_; clear hK K')
  refine ord_nil ?_
  have hbs : (((((([] ++ [p / 256, p % 256]) ++ [6 / 256, 6 % 256]) ++ [8 / 256, 8 % 256]) ++ [0, 0]) ++ [] : List Int)) = [p / 256, p % 256, 0, 6, 0, 8, 0, 0] := rfl
  rw [hbs] at hU6
  have hV := hU6.pull2.drop
  have c7 := over_any (by
      intro x hx
      simp only [List.mem_cons, List.not_mem_nil, or_false] at hx
      rcases hx with rfl | rfl | rfl | rfl | rfl | rfl | rfl | rfl <;> constructor <;> omega) rfl (by simp only [wsum]; omega) hV
  rw [show (65535 - (3100 + wsum [p / 256, p % 256, 0, 6, 0, 8, 0, 0]) : Int) = 62421 - p by simp only [wsum]; omega] at c7
  have hld : ∀ (W : World) (b : Nat) (S : Array Value), S.size = 17 → W.heap[b]? = some (.cells S 36) → (Instr.loadAt 36 (.pointer (some ⟨b, 0, none⟩))).run Tryz.prog W = .ok (.agg S) W := fun W b S hS hW =>
    run_loadAt_row (cs := S.toList) hW Tryz.underlying36 rfl (by rw [Array.length_toList, hS]; kernel_rfl) (fun j u hu => by simpa using hu)
  rw [hAA.out, hBB.out] at c7
  have hl1 := hld _ _ _ hSA hV.drop.drop.drop.heap
  have hl2 := hld _ _ _ hSB hV.drop.drop.heap
  clear hU4 hU5 hU6 hZ hbs hr5 hr6
  have en : ((62421 - p : Int) == 0) = false := by rw [beq_eq_false_iff_ne]; omega
  go_wp2_with (first | (refine wpList_load_run (t := 36) rfl rfl rfl hl1 ?_) | (refine wpList_load_run (t := 36) rfl rfl rfl hl2 ?_))
  refine c7.mono ?_
  rintro e u7 ⟨rfl, hU7⟩
  have c8 := set_any 6 (62421 - p) (by omega) (by omega) (by simp) (by simp) hU7
  clear c7 hl1 hl2 hV
  go_wp2_with fail
  refine c8.mono ?_
  rintro e u8 ⟨x8, rfl, hU8⟩
  have hW8 := (hU8.pull2.drop).pull2
  have hst := run_storeAt_row (P := Tryz.prog) (o := 0) (ty := 75) (v := .agg #[.int .i64 0, .int .i64 0, .bool false]) hW8.heap (by kernel_rfl) (by simp [Value.cells]) (by simp [Value.cells, Value.oneCell'])
  have hW9 := hW8.setRow (cs := #[.int .i64 0, .int .i64 0, .bool false])
  simp only [Value.cells] at hst
  rw [show splice (#[.int .i64 0, .int .i64 0, .bool false] : Array Value) 0 (#[.int .i64 0, .int .i64 0, .bool false] : Array Value).toList = #[.int .i64 0, .int .i64 0, .bool false] by rfl] at hst
  have hl9 : (Instr.loadAt 75 (.pointer (some ⟨q + 3, 0, none⟩))).run Tryz.prog (u8.setRow (q + 3) #[.int .i64 0, .int .i64 0, .bool false]) = .ok (.agg #[.int .i64 0, .int .i64 0, .bool false]) (u8.setRow (q + 3) #[.int .i64 0, .int .i64 0, .bool false]) :=
    run_loadAt_row (cs := [.int .i64 0, .int .i64 0, .bool false]) hW9.heap Tryz.underlying75 rfl (by kernel_rfl) (fun j u hu => by simpa using hu)
  have hfin : Sat B w0 (u8.setRow (q + 3) #[.int .i64 0, .int .i64 0, .bool false]) (byt x8 (dgrB p) • F) := (hW9.drop.pull2.drop).pull2.drop.pull2.drop
  have HF := Lib.hid hfin
  clear c8 hU8 hW8 hW9 hfin hU7
  go_wp2_with (refine wpList_store_run (t := 75) rfl rfl rfl rfl hst (stop_ ?_))
  unfold Stop
  go_wp2_with fail
  refine ret_tmp_cell rfl rfl rfl hl9 rfl ⟨x8, rfl, HF.out⟩
end Go.Proofs.YtdcekoocnoackaaGreatDoor
