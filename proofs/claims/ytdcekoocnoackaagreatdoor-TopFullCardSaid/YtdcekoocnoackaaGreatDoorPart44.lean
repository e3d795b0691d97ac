import Derived.Test.YtdcekoocnoackaaGreatDoorPart43
import Derived.Test.YtdcekoocnoackaaGreatDoorPart22
import Derived.Test.YtdcekoocnoackaaGreatDoorPart08
import Derived.Deep.Cut
import Derived.Test.YtdcekoocnoackaaGreatDoorPart11
import Derived.Test.YtdcekoocnoackaaGreatDoorPart12

/-! packet.datagram. -/
namespace Go.Proofs.YtdcekoocnoackaaGreatDoor
open Go Go.RowKit

/-- A packet without ports; one that is parsed; none. -/
def pk0 : List Value := [.bool false, .int .u8 1, .int .u8 1, .int .u8 1, .int .u8 1, .int .u8 0, .int .u8 0, .int .u8 0, .int .u8 0, .int .u8 0, .int .u8 0, .int .u8 0, .int .u8 0, .int .u8 0, .int .u8 0, .int .u8 0, .int .u8 0, .bool false, .int .u8 10, .int .u8 0, .int .u8 0, .int .u8 1, .int .u8 0, .int .u8 0, .int .u8 0, .int .u8 0, .int .u8 0, .int .u8 0, .int .u8 0, .int .u8 0, .int .u8 0, .int .u8 0, .int .u8 0, .int .u8 0, .int .i64 17, .int .i64 0, .int .i64 0, .int .i64 0, .int .u32 0, .int .u32 0, .int .i64 0, .int .i64 0, .bool false, .int .u8 0, .int .u8 0, .int .u8 0, .int .u8 0, .int .u8 0, .int .u8 0, .int .u8 0, .int .u8 0, .int .u8 0, .int .u8 0, .int .u8 0, .int .u8 0, .int .u8 0, .int .u8 0, .int .u8 0, .int .u8 0, .bool false, .int .u8 0, .int .u8 0, .int .u8 0, .int .u8 0, .int .u8 0, .int .u8 0, .int .u8 0, .int .u8 0, .int .u8 0, .int .u8 0, .int .u8 0, .int .u8 0, .int .u8 0, .int .u8 0, .int .u8 0, .int .u8 0, .int .i64 0, .int .i64 0, .int .i64 0, .slice none 0 0]
def pkP (p : Int) (A : Option Addr) (d : Nat) : List Value := [.bool false, .int .u8 1, .int .u8 1, .int .u8 1, .int .u8 1, .int .u8 0, .int .u8 0, .int .u8 0, .int .u8 0, .int .u8 0, .int .u8 0, .int .u8 0, .int .u8 0, .int .u8 0, .int .u8 0, .int .u8 0, .int .u8 0, .bool false, .int .u8 10, .int .u8 0, .int .u8 0, .int .u8 1, .int .u8 0, .int .u8 0, .int .u8 0, .int .u8 0, .int .u8 0, .int .u8 0, .int .u8 0, .int .u8 0, .int .u8 0, .int .u8 0, .int .u8 0, .int .u8 0, .int .i64 17, .int .i64 p, .int .i64 6, .int .i64 0, .int .u32 0, .int .u32 0, .int .i64 0, .int .i64 0, .bool false, .int .u8 0, .int .u8 0, .int .u8 0, .int .u8 0, .int .u8 0, .int .u8 0, .int .u8 0, .int .u8 0, .int .u8 0, .int .u8 0, .int .u8 0, .int .u8 0, .int .u8 0, .int .u8 0, .int .u8 0, .int .u8 0, .bool false, .int .u8 0, .int .u8 0, .int .u8 0, .int .u8 0, .int .u8 0, .int .u8 0, .int .u8 0, .int .u8 0, .int .u8 0, .int .u8 0, .int .u8 0, .int .u8 0, .int .u8 0, .int .u8 0, .int .u8 0, .int .u8 0, .int .i64 0, .int .i64 0, .int .i64 0, .slice A 0 d]
def pkZ : List Value := [.bool false, .int .u8 0, .int .u8 0, .int .u8 0, .int .u8 0, .int .u8 0, .int .u8 0, .int .u8 0, .int .u8 0, .int .u8 0, .int .u8 0, .int .u8 0, .int .u8 0, .int .u8 0, .int .u8 0, .int .u8 0, .int .u8 0, .bool false, .int .u8 0, .int .u8 0, .int .u8 0, .int .u8 0, .int .u8 0, .int .u8 0, .int .u8 0, .int .u8 0, .int .u8 0, .int .u8 0, .int .u8 0, .int .u8 0, .int .u8 0, .int .u8 0, .int .u8 0, .int .u8 0, .int .i64 0, .int .i64 0, .int .i64 0, .int .i64 0, .int .u32 0, .int .u32 0, .int .i64 0, .int .i64 0, .bool false, .int .u8 0, .int .u8 0, .int .u8 0, .int .u8 0, .int .u8 0, .int .u8 0, .int .u8 0, .int .u8 0, .int .u8 0, .int .u8 0, .int .u8 0, .int .u8 0, .int .u8 0, .int .u8 0, .int .u8 0, .int .u8 0, .bool false, .int .u8 0, .int .u8 0, .int .u8 0, .int .u8 0, .int .u8 0, .int .u8 0, .int .u8 0, .int .u8 0, .int .u8 0, .int .u8 0, .int .u8 0, .int .u8 0, .int .u8 0, .int .u8 0, .int .u8 0, .int .u8 0, .int .i64 0, .int .i64 0, .int .i64 0, .slice none 0 0]
theorem splice_full {cur : Array Value} {vs : List Value} (h : vs.length = cur.size) : splice cur 0 vs = vs.toArray := by
  simp [splice, h]
theorem pkP_len (p : Int) (A : Option Addr) (d : Nat) : (pkP p A d).length = 80 := rfl
theorem pkP_one (p : Int) (A : Option Addr) (d : Nat) : ∀ u ∈ (Value.agg (pkP p A d).toArray).cells.toList, u.oneCell' = true := fun u hu =>
  List.all_eq_true.1 (show (pkP p A d).all (fun u => u.oneCell') = true from rfl) u (by simpa [Value.cells] using hu)
theorem pk0_one : ∀ u ∈ (Value.agg pk0.toArray).cells.toList, u.oneCell' = true := fun u hu =>
  List.all_eq_true.1 (show pk0.all (fun u => u.oneCell') = true from rfl) u (by simpa [Value.cells] using hu)
theorem pk0_A (j : Nat) (u : Value) (h : adA.toList[j]? = some u) : pk0.toArray[0 + j]? = some u := by
  rw [Nat.zero_add, show pk0 = adA.toList ++ (adB.toList ++ [.int .i64 17, .int .i64 0, .int .i64 0, .int .i64 0, .int .u32 0, .int .u32 0, .int .i64 0, .int .i64 0, .bool false, .int .u8 0, .int .u8 0, .int .u8 0, .int .u8 0, .int .u8 0, .int .u8 0, .int .u8 0, .int .u8 0, .int .u8 0, .int .u8 0, .int .u8 0, .int .u8 0, .int .u8 0, .int .u8 0, .int .u8 0, .int .u8 0, .bool false, .int .u8 0, .int .u8 0, .int .u8 0, .int .u8 0, .int .u8 0, .int .u8 0, .int .u8 0, .int .u8 0, .int .u8 0, .int .u8 0, .int .u8 0, .int .u8 0, .int .u8 0, .int .u8 0, .int .u8 0, .int .u8 0, .int .i64 0, .int .i64 0, .int .i64 0, .slice none 0 0]) from rfl, List.getElem?_toArray, List.getElem?_append_left (List.getElem?_eq_some_iff.1 h).1]; exact h
theorem pk0_B (j : Nat) (u : Value) (h : adB.toList[j]? = some u) : pk0.toArray[17 + j]? = some u := by
  rw [show pk0 = adA.toList ++ (adB.toList ++ [.int .i64 17, .int .i64 0, .int .i64 0, .int .i64 0, .int .u32 0, .int .u32 0, .int .i64 0, .int .i64 0, .bool false, .int .u8 0, .int .u8 0, .int .u8 0, .int .u8 0, .int .u8 0, .int .u8 0, .int .u8 0, .int .u8 0, .int .u8 0, .int .u8 0, .int .u8 0, .int .u8 0, .int .u8 0, .int .u8 0, .int .u8 0, .int .u8 0, .bool false, .int .u8 0, .int .u8 0, .int .u8 0, .int .u8 0, .int .u8 0, .int .u8 0, .int .u8 0, .int .u8 0, .int .u8 0, .int .u8 0, .int .u8 0, .int .u8 0, .int .u8 0, .int .u8 0, .int .u8 0, .int .u8 0, .int .i64 0, .int .i64 0, .int .i64 0, .slice none 0 0]) from rfl, List.getElem?_toArray, List.getElem?_append_right (by simp [adA]), show 17 + j - adA.toList.length = j by simp [adA], List.getElem?_append_left (List.getElem?_eq_some_iff.1 h).1]; exact h
attribute [local irreducible] wpOrd
set_option maxRecDepth 8000 in
set_option maxHeartbeats 8000000 in
theorem dgram_any {B : Nat} {w0 w : World} {F : HP} {g o c : Nat} (p : Int) (h1 : 0 ≤ p) (h2 : p ≤ 1000) (h : Sat B w0 w F) (hsh : Shows B w0 F g o (dgrB p)) (hc : 8 ≤ c) :
    Calls Tryz.prog 86 #[.agg pk0.toArray, .slice (some ⟨g, o, none⟩) 8 c] w fun e w' => ∃ A d, e = .returned (.tuple #[.agg (pkP p A d).toArray, .nilIface]) ∧ Sat B w0 w' F := by
  have hS2 := (h.alloc (.cells pk0.toArray 44)).alloc (.cells pkZ.toArray 44)
  rw [World.size_alloc] at hS2
  have hz : (Tryz.prog.info? 44).map (·.zero) = some (some (.agg pkZ.toArray)) := by kernel_rfl
  have hl1 : (Instr.loadAt 36 (.pointer (some ⟨w.heap.size, 0, none⟩))).run Tryz.prog ((w.alloc (.cells pk0.toArray 44)).alloc (.cells pkZ.toArray 44)) = .ok (.agg adA) ((w.alloc (.cells pk0.toArray 44)).alloc (.cells pkZ.toArray 44)) :=
    run_loadAt_row (cs := adA.toList) hS2.pull2.heap Tryz.underlying36 rfl (by kernel_rfl) (fun j u hu => pk0_A j u hu)
  have hl2 : (Instr.loadAt 36 (.pointer (some ⟨w.heap.size, 17, none⟩))).run Tryz.prog ((w.alloc (.cells pk0.toArray 44)).alloc (.cells pkZ.toArray 44)) = .ok (.agg adB) ((w.alloc (.cells pk0.toArray 44)).alloc (.cells pkZ.toArray 44)) :=
    run_loadAt_row (cs := adB.toList) hS2.pull2.heap Tryz.underlying36 rfl (by kernel_rfl) (fun j u hu => pk0_B j u hu)
  have c1 := udpp_any p h1 h2 hS2 hsh.more.more hc
  generalize hq : w.heap.size = q at *
  have hp0 : pk0.toArray.size = 80 := rfl
  have hset : ∀ A d, (((pk0.toArray.setIfInBounds 35 (.int .i64 p)).setIfInBounds 36 (.int .i64 6)).setIfInBounds 79 (.slice A 0 d)) = (pkP p A d).toArray := fun A d => rfl
  generalize hP0 : pk0.toArray = P0 at *
  generalize hPZ : pkZ.toArray = PZ at *
  clear h
  go_enter Tryz.func86, Tryz.ntmps86
  go_upto_region 0 with (fail)
  refine wp_region_seq [(0, .acts), (1, .acts), (2, .pure)] (by kernel_rfl)
    (fun _ => True) trivial ?_
  refine ord_acts rfl rfl (fun K' hK => wp_box_w rfl rfl (hK _ _ trivial ?_))
  clear hK K'
  go_simp
  refine ord_acts rfl rfl (fun K' hK => wp_alloc_run rfl hz (hK _ _ trivial ?_))
  clear hK K'
  go_simp
  iterate 1 (refine ord_pure rfl rfl rfl (fun K' hK => ?_); go_big_quiet_op; refine hK _ ?_; clear hK K')
  refine ord_nil ?_
  generalize hW : (w.alloc (.cells P0 44)).alloc (.cells PZ 44) = W at *
  have hpz : PZ.size = 80 := by rw [← hPZ]; rfl
  clear hPZ hz
  go_wp2_with (first | (refine wpList_load_run (t := 36) rfl rfl rfl hl1 ?_) | (refine wpList_load_run (t := 36) rfl rfl rfl hl2 ?_))
  refine c1.mono ?_
  rintro e w1 ⟨A, d, rfl, hS3⟩
  have hS4 := hS3.alloc (.cells #[.int .i64 p, .int .i64 6, .slice A 0 d] 126)
  clear c1 hl1 hl2 hS2 hS3
  go_wp2_with fail
  try go_frame
  generalize hdb : w1.heap.size = db at *
  generalize hW4 : w1.alloc (.cells #[.int .i64 p, .int .i64 6, .slice A 0 d] 126) = W4 at *
  obtain ⟨W5, hst5, hS5⟩ := one_storeS (o := 35) (ty := 3) (u := .int .i64 p) hS4.drew.pull3 (by kernel_rfl) (by omega) rfl rfl
  obtain ⟨W6, hst6, hS6⟩ := one_storeS (o := 36) (ty := 3) (u := .int .i64 6) hS5 (by kernel_rfl) (by rw [Array.size_setIfInBounds]; omega) rfl rfl
  obtain ⟨W7, hst7, hS7⟩ := one_storeS (o := 79) (ty := 32) (u := .slice A 0 d) hS6 (by kernel_rfl) (by rw [Array.size_setIfInBounds, Array.size_setIfInBounds]; omega) rfl rfl
  refine wp_region_ord [(0, .pure), (1, .quiet), (2, .pure), (3, .quiet), (4, .pure), (5, .quiet), (6, .pure), (7, .pure), (8, .acts), (9, .pure), (10, .pure), (11, .acts), (12, .pure), (13, .acts)] (by kernel_rfl) (by kernel_rfl)
    (fun w' => w'.heap[db]? = some (.cells #[.int .i64 p, .int .i64 6, .slice A 0 d] 126)) hS4.drew.heap ?_
  iterate 1 (refine ord_pure rfl rfl rfl (fun K' hK => ?_); go_big_quiet_op; refine hK _ ?_; clear hK K')
  refine ord_load (t := 3) rfl rfl rfl (p := .pointer (some ⟨db, 0, none⟩)) (v := .int .i64 p) rfl (fun w' hC => run_loadAt_one hC Tryz.underlying3 rfl rfl) (fun K' hK => ?_)
  go_simp
  refine hK _ ?_
  clear hK K'
  iterate 1 (refine ord_pure rfl rfl rfl (fun K' hK => ?_); go_big_quiet_op; refine hK _ ?_; clear hK K')
  refine ord_load (t := 3) rfl rfl rfl (p := .pointer (some ⟨db, 1, none⟩)) (v := .int .i64 6) rfl (fun w' hC => run_loadAt_one hC Tryz.underlying3 rfl rfl) (fun K' hK => ?_)
  go_simp
  refine hK _ ?_
  clear hK K'
  iterate 1 (refine ord_pure rfl rfl rfl (fun K' hK => ?_); go_big_quiet_op; refine hK _ ?_; clear hK K')
  refine ord_load (t := 32) rfl rfl rfl (p := .pointer (some ⟨db, 2, none⟩)) (v := .slice A 0 d) rfl (fun w' hC => run_loadAt_one hC Tryz.underlying32 rfl rfl) (fun K' hK => ?_)
  go_simp
  refine hK _ ?_
  clear hK K'
  iterate 2 (refine ord_pure rfl rfl rfl (fun K' hK => ?_); go_big_quiet_op; refine hK _ ?_; clear hK K')
  refine ord_acts rfl rfl (fun K' hK => wp_store_run rfl rfl rfl hst5 (hK _ _ hS5.pull2.heap ?_))
  clear hK K'
  go_simp
  iterate 2 (refine ord_pure rfl rfl rfl (fun K' hK => ?_); go_big_quiet_op; refine hK _ ?_; clear hK K')
  refine ord_acts rfl rfl (fun K' hK => wp_store_run rfl rfl rfl hst6 (hK _ _ hS6.pull2.heap ?_))
  clear hK K'
  go_simp
  iterate 1 (refine ord_pure rfl rfl rfl (fun K' hK => ?_); go_big_quiet_op; refine hK _ ?_; clear hK K')
  refine ord_acts rfl rfl (fun K' hK => wp_store_run rfl rfl rfl hst7 (hK _ _ hS7.pull2.heap ?_))
  clear hK K'
  go_simp
  refine ord_nil ?_
  rw [hset] at hS7
  have hpl : (pkP p A d).toArray.size = 80 := rfl
  have hone := pkP_one p A d
  generalize hPP : (pkP p A d).toArray = PP at *
  have hl7 : (Instr.loadAt 44 (.pointer (some ⟨q, 0, none⟩))).run Tryz.prog W7 = .ok (.agg PP) W7 :=
    run_loadAt_row (cs := PP.toList) hS7.heap Tryz.underlying44 rfl (by rw [Array.length_toList, hpl]; kernel_rfl) (fun j u hu => by simpa using hu)
  have hst8 := run_storeAt_row (P := Tryz.prog) (o := 0) (ty := 44) (v := .agg PP) hS7.pull3.heap (by simp only [Value.cells]; rw [hpl]; kernel_rfl) (by simp only [Value.cells]; omega) hone
  have hS9 := hS7.pull3.setRow (cs := PP)
  simp only [Value.cells] at hst8
  rw [splice_full (by rw [Array.length_toList, hpl, hpz])] at hst8
  rw [show PP.toList.toArray = PP by simp] at hst8
  have hl9 : (Instr.loadAt 44 (.pointer (some ⟨q + 1, 0, none⟩))).run Tryz.prog (W7.setRow (q + 1) PP) = .ok (.agg PP) (W7.setRow (q + 1) PP) :=
    run_loadAt_row (cs := PP.toList) hS9.heap Tryz.underlying44 rfl (by rw [Array.length_toList, hpl]; kernel_rfl) (fun j u hu => by simpa using hu)
  have HF := Lib.hid hS9.drop.drop.drop
  have HPP := Lib.hid hPP
  clear hst5 hst6 hst7 hS4 hS5 hS6 hS7 hS9 hset hPP hone
  go_wp2_with (refine wpList_load_run (t := 44) rfl rfl rfl hl7 (stop_ ?_))
  unfold Stop
  go_wp2_with (refine wpList_store_run (t := 44) rfl rfl rfl rfl hst8 (stop_ ?_))
  unfold Stop
  go_wp2_with fail
  refine ret_cell_tmp rfl rfl rfl hl9 rfl ⟨A, d, by rw [HPP.out]; rfl, HF.out⟩
end Go.Proofs.YtdcekoocnoackaaGreatDoor

/-! errors.As of a wrapped number. -/
namespace Go.Proofs.YtdcekoocnoackaaGreatDoor
open Go Go.RowKit Go.Extern.Stop Go.Stop Go.Extern

theorem p_typeOf (v : Value) (w : World) : (ReflectliteType.typeOf #[.iface 214 v]).run Tryz.prog w = .ok (.iface 181 (.agg #[.pointer (some ⟨9, 214, none⟩)])) w := by kernel_rfl
theorem p_assign (w : World) : (ReflectliteType.relation "AssignableTo" ReflectliteType.assignableTo #[.agg #[.pointer (some ⟨9, 214, none⟩)], .iface 181 (.agg #[.pointer (some ⟨9, 58, none⟩)])]).run Tryz.prog w = .ok (.bool false) w := by kernel_rfl
theorem p_noAs (v : Value) (w : World) : (Instr.typeAssert (.iface 214 v) 25 186 true).run Tryz.prog w = .ok (.tuple #[.nilIface, .bool false]) w := run_typeAssert_lacksB Tryz.underlying186 (by kernel_rfl) (by kernel_rfl) v 25 w
theorem p_unwrap (v : Value) (w : World) : (Instr.typeAssert (.iface 214 v) 25 189 true).run Tryz.prog w = .ok (.tuple #[.iface 214 v, .bool true]) w := run_typeAssert_hasB Tryz.underlying189 (by kernel_rfl) v 25 w
theorem p_method (v : Value) (w : World) : (Go.method 664 214 v "Unwrap").run Tryz.prog w = .ok (426, v) w := by kernel_rfl
set_option maxRecDepth 8000 in
set_option maxHeartbeats 8000000 in
theorem as_wrap_w (n : Int) (fb : Nat) (old : Value) (tb : Nat) (w : World) (hE : Et w) (ht0 : w.cell? ⟨tb, 0, none⟩ = some old) (hf0 : w.frozen? ⟨tb, 0, none⟩ = false) (hfb : w.cell? ⟨fb, 1, none⟩ = some (.iface 58 (.int .i64 n))) :
    Calls Tryz.prog 13 #[.iface 214 (.pointer (some ⟨fb, 0, none⟩)), .iface 60 (.pointer (some ⟨tb, 0, none⟩))] w fun e w' => e = .returned (.bool true) ∧ w' = ((((w.alloc (.cells #[.pointer (some ⟨tb, 0, none⟩)] 60)).alloc (.cells #[.pointer (some ⟨9, 60, none⟩), .pointer (some ⟨w.heap.size, 0, none⟩), .int .u64 150] 95)).alloc (.cells #[.pointer (some ⟨9, 60, none⟩), .pointer (some ⟨w.heap.size, 0, none⟩), .int .u64 150] 95)).alloc (.cells #[.int .i64 n] 58)).setCell ⟨tb, 0, none⟩ (.int .i64 n) := by
  have x1 := @run_callFunc_extern Tryz.prog 29 _ (fun args => ReflectliteValue.unpack (args.getD 0 (.tuple #[]))) Tryz.func29 (by kernel_rfl) (by kernel_rfl) (by kernel_rfl) (by kernel_rfl)
  have x2 := @run_callFunc_extern Tryz.prog 30 _ (ReflectliteValue.methodAny (ReflectliteValue.valueError "reflectlite.Value.Type" 0) (fun t _ _ _ => ReflectliteType.toType t)) Tryz.func30 (by kernel_rfl) (by kernel_rfl) (by kernel_rfl) (by kernel_rfl)
  have x3 := @run_callFunc_extern Tryz.prog 31 _ (ReflectliteValue.method (ReflectliteValue.valueError "reflectlite.Value.IsNil" 0) ReflectliteValue.isNil) Tryz.func31 (by kernel_rfl) (by kernel_rfl) (by kernel_rfl) (by kernel_rfl)
  have x4 := @run_callFunc_extern Tryz.prog 392 _ (ReflectliteType.abiMethod fun t => do pure (.int .u8 (← Rtype.kind t))) Tryz.func392 (by kernel_rfl) (by kernel_rfl) (by kernel_rfl) (by kernel_rfl)
  have x5 := @run_callFunc_extern Tryz.prog 408 _ (ReflectliteType.method ReflectliteType.elem) Tryz.func408 (by kernel_rfl) (by kernel_rfl) (by kernel_rfl) (by kernel_rfl)
  have x6 := @run_callFunc_extern Tryz.prog 409 _ (ReflectliteType.relation "Implements" ReflectliteType.implements_) Tryz.func409 (by kernel_rfl) (by kernel_rfl) (by kernel_rfl) (by kernel_rfl)
  have x7 := @run_callFunc_extern Tryz.prog 72 _ ReflectliteType.typeOf Tryz.func72 (by kernel_rfl) (by kernel_rfl) (by kernel_rfl) (by kernel_rfl)
  have x8 := @run_callFunc_extern Tryz.prog 406 _ (ReflectliteType.relation "AssignableTo" ReflectliteType.assignableTo) Tryz.func406 (by kernel_rfl) (by kernel_rfl) (by kernel_rfl) (by kernel_rfl)
  have x9 := @run_callFunc_extern Tryz.prog 73 _ (ReflectliteValue.method (ReflectliteValue.valueError "reflectlite.Value.Elem" 0) ReflectliteValue.elem) Tryz.func73 (by kernel_rfl) (by kernel_rfl) (by kernel_rfl) (by kernel_rfl)
  have x10 := @run_callFunc_extern Tryz.prog 74 _ ReflectliteValue.set Tryz.func74 (by kernel_rfl) (by kernel_rfl) (by kernel_rfl) (by kernel_rfl)
  have t1 := e_typeOf
  have t2 := m_Kind
  have t3 := m_Elem
  have t4 := m_Implements
  have t5 := m_AssignableTo
  have f1 := valueOf_pe
  have f2 := type_pe
  have f3 := kindP_pe
  have f4 := kindE_pe
  have f5 := elem_pe
  have f6 := impl_pe
  have hlt : 0 < w.heap.size := hE.pos
  have htl : tb < w.heap.size := World.block_lt_of_cell? _ _ ht0
  have n8 := isNil_pe ⟨w.heap.size, 0, none⟩ ⟨tb, 0, none⟩ ((w.alloc (.cells #[.pointer (some ⟨tb, 0, none⟩)] 60)).alloc (.cells #[.pointer (some ⟨9, 60, none⟩), .pointer (some ⟨w.heap.size, 0, none⟩), .int .u64 150] 95)) (by simp)
  have hg2 : ((w.alloc (.cells #[.pointer (some ⟨tb, 0, none⟩)] 60)).alloc (.cells #[.pointer (some ⟨9, 60, none⟩), .pointer (some ⟨w.heap.size, 0, none⟩), .int .u64 150] 95)).cell? ⟨0, 0, none⟩ = some (.iface 181 (.agg #[.pointer (some ⟨9, 25, none⟩)])) := by
    rw [World.cell?_alloc_lt _ _ ⟨0, 0, none⟩ (by simp), World.cell?_alloc_lt _ _ ⟨0, 0, none⟩ hlt]; exact hE
  have t6 := assign_e
  have t7 := valueOf_e
  have el := elemV_pe ⟨w.heap.size, 0, none⟩ ⟨tb, 0, none⟩ (((w.alloc (.cells #[.pointer (some ⟨tb, 0, none⟩)] 60)).alloc (.cells #[.pointer (some ⟨9, 60, none⟩), .pointer (some ⟨w.heap.size, 0, none⟩), .int .u64 150] 95)).alloc (.cells #[.pointer (some ⟨9, 60, none⟩), .pointer (some ⟨w.heap.size, 0, none⟩), .int .u64 150] 95)) (by rw [World.cell?_alloc_lt _ _ ⟨w.heap.size, 0, none⟩ (by simp; omega)]; simp)
  have st := set_e ⟨tb, 0, none⟩ ⟨w.heap.size + 1 + 1 + 1, 0, none⟩ n old ((((w.alloc (.cells #[.pointer (some ⟨tb, 0, none⟩)] 60)).alloc (.cells #[.pointer (some ⟨9, 60, none⟩), .pointer (some ⟨w.heap.size, 0, none⟩), .int .u64 150] 95)).alloc (.cells #[.pointer (some ⟨9, 60, none⟩), .pointer (some ⟨w.heap.size, 0, none⟩), .int .u64 150] 95)).alloc (.cells #[.int .i64 n] 58))
    (by rw [World.cell?_alloc_at _ _ _ _ (by simp)]; rfl)
    (by rw [World.cell?_alloc_lt _ _ _ (by simp; omega), World.cell?_alloc_lt _ _ _ (by simp; omega), World.cell?_alloc_lt _ _ _ (by simp; omega), World.cell?_alloc_lt _ _ _ htl]; exact ht0)
    (by rw [World.frozen?_alloc_old _ _ _ (by simp; omega), World.frozen?_alloc_old _ _ _ (by simp; omega), World.frozen?_alloc_old _ _ _ (by simp; omega), World.frozen?_alloc_old _ _ _ (Nat.ne_of_lt htl)]; exact hf0)
  have p1 := p_typeOf
  have p2 := p_assign
  have p3 := p_noAs
  have p4 := p_unwrap
  have p5 := p_method
  have hfl : fb < w.heap.size := World.block_lt_of_cell? _ _ hfb
  have hfb3 : (((w.alloc (.cells #[.pointer (some ⟨tb, 0, none⟩)] 60)).alloc (.cells #[.pointer (some ⟨9, 60, none⟩), .pointer (some ⟨w.heap.size, 0, none⟩), .int .u64 150] 95)).alloc (.cells #[.pointer (some ⟨9, 60, none⟩), .pointer (some ⟨w.heap.size, 0, none⟩), .int .u64 150] 95)).cell? ⟨fb, 1, none⟩ = some (.iface 58 (.int .i64 n)) := by
    rw [World.cell?_alloc_lt _ _ _ (by simp; omega), World.cell?_alloc_lt _ _ _ (by simp; omega), World.cell?_alloc_lt _ _ _ hfl]; exact hfb
  unfold Et at hE
  go_enter Tryz.func13, Tryz.ntmps13
  go_wp2
  refine wp_loop_rounds 2 ?_
  rw [rounds_succ]
  go_wp2
  rw [rounds_succ]
  go_wp2
  go_ret
  exact ⟨rfl, rfl⟩
end Go.Proofs.YtdcekoocnoackaaGreatDoor

/-! firewall.message of nothing. -/
namespace Go.Proofs.YtdcekoocnoackaaGreatDoor
open Go Go.RowKit

theorem frozen_of {W : World} {b : Nat} {cs : Array Value} {t : TypeId} (h : W.heap[b]? = some (.cells cs t)) : W.frozen? ⟨b, 0, none⟩ = false := by simp [World.frozen?, h]
set_option maxRecDepth 8000 in
set_option maxHeartbeats 2000000 in
theorem wrap3 (w : World) : Calls Tryz.prog 59 #[.int .i64 0, .iface 58 (.int .i64 3)] w fun e w' => e = .returned (.iface 214 (.pointer (some ⟨w.heap.size, 0, none⟩))) ∧ w' = w.alloc (.cells #[.int .i64 0, .iface 58 (.int .i64 3)] 264) := by
  go_enter Tryz.func59, Tryz.ntmps59
  go_wp2_with fail
  go_ret
  exact ⟨rfl, rfl⟩
set_option maxRecDepth 8000 in
set_option maxHeartbeats 4000000 in
theorem dns_empty {B : Nat} {w0 w : World} {F : HP} (A : Option Addr) (d : Nat) (h : Sat B w0 w F) : Calls Tryz.prog 150 #[.slice A 0 d] w fun e w' => ∃ fb : Nat, e = .returned (.tuple #[.agg #[.int .i64 0, .bool false, .int .i64 0, .int .i64 0, .int .i64 0, .slice none 0 0, .slice none 0 0, .slice none 0 0, .slice none 0 0], .iface 214 (.pointer (some ⟨fb, 0, none⟩))]) ∧ Sat B w0 w' (blk fb (.cells #[.int .i64 0, .iface 58 (.int .i64 3)] 264) • F) := by
  have hS1 := h.alloc (.cells #[.int .i64 0, .bool false, .int .i64 0, .int .i64 0, .int .i64 0, .slice none 0 0, .slice none 0 0, .slice none 0 0, .slice none 0 0] 219)
  generalize hq : w.heap.size = q at *
  have hS2 := (hS1.alloc (.cells #[.int .i64 0, .iface 58 (.int .i64 3)] 264)).pull2
  have cw := wrap3 (w.alloc (.cells #[.int .i64 0, .bool false, .int .i64 0, .int .i64 0, .int .i64 0, .slice none 0 0, .slice none 0 0, .slice none 0 0, .slice none 0 0] 219))
  generalize hW1 : w.alloc (.cells #[.int .i64 0, .bool false, .int .i64 0, .int .i64 0, .int .i64 0, .slice none 0 0, .slice none 0 0, .slice none 0 0, .slice none 0 0] 219) = W1 at *
  generalize hW2 : W1.alloc (.cells #[.int .i64 0, .iface 58 (.int .i64 3)] 264) = W2 at *
  generalize hfb : W1.heap.size = fb at *
  have hst1 := run_storeAt_row (P := Tryz.prog) (o := 0) (ty := 219) (v := .agg #[.int .i64 0, .bool false, .int .i64 0, .int .i64 0, .int .i64 0, .slice none 0 0, .slice none 0 0, .slice none 0 0, .slice none 0 0]) hS2.heap (by kernel_rfl) (by simp [Value.cells]) (by simp [Value.cells, Value.oneCell'])
  have hR1 := hS2.setRow (cs := #[.int .i64 0, .bool false, .int .i64 0, .int .i64 0, .int .i64 0, .slice none 0 0, .slice none 0 0, .slice none 0 0, .slice none 0 0])
  simp only [Value.cells] at hst1
  rw [show splice (#[.int .i64 0, .bool false, .int .i64 0, .int .i64 0, .int .i64 0, .slice none 0 0, .slice none 0 0, .slice none 0 0, .slice none 0 0] : Array Value) 0 (#[.int .i64 0, .bool false, .int .i64 0, .int .i64 0, .int .i64 0, .slice none 0 0, .slice none 0 0, .slice none 0 0, .slice none 0 0] : Array Value).toList = #[.int .i64 0, .bool false, .int .i64 0, .int .i64 0, .int .i64 0, .slice none 0 0, .slice none 0 0, .slice none 0 0, .slice none 0 0] by rfl] at hst1
  have hl1 : (Instr.loadAt 219 (.pointer (some ⟨q, 0, none⟩))).run Tryz.prog (W2.setRow q #[.int .i64 0, .bool false, .int .i64 0, .int .i64 0, .int .i64 0, .slice none 0 0, .slice none 0 0, .slice none 0 0, .slice none 0 0]) = .ok (.agg #[.int .i64 0, .bool false, .int .i64 0, .int .i64 0, .int .i64 0, .slice none 0 0, .slice none 0 0, .slice none 0 0, .slice none 0 0]) (W2.setRow q #[.int .i64 0, .bool false, .int .i64 0, .int .i64 0, .int .i64 0, .slice none 0 0, .slice none 0 0, .slice none 0 0, .slice none 0 0]) :=
    run_loadAt_row (cs := [.int .i64 0, .bool false, .int .i64 0, .int .i64 0, .int .i64 0, .slice none 0 0, .slice none 0 0, .slice none 0 0, .slice none 0 0]) hR1.heap Tryz.underlying219 rfl (by kernel_rfl) (fun j u hu => by simpa using hu)
  clear h hS1
  go_enter Tryz.func150, Tryz.ntmps150
  go_wp2_with fail
  refine cw.mono ?_
  rintro e w1 ⟨rfl, rfl⟩
  have HF := Lib.hid hR1.drop
  clear cw hS2 hR1
  go_wp2_with (refine wpList_store_run (t := 219) rfl rfl rfl rfl hst1 (stop_ ?_))
  unfold Stop
  go_wp2_with fail
  refine ret_cell_tmp rfl rfl rfl hl1 rfl ⟨fb, rfl, HF.out⟩
set_option maxRecDepth 8000 in
set_option maxHeartbeats 6000000 in
theorem msg_empty {B : Nat} {w0 w : World} {F : HP} (A : Option Addr) (d : Nat) (hB : 1 < B) (hE : Et w0) (h : Sat B w0 w F) : Calls Tryz.prog 91 #[.slice A 0 d, .bool false] w fun e w' => e = .returned (.tuple #[.agg #[.int .i64 0, .bool false, .int .i64 0, .int .i64 0, .int .i64 0, .slice none 0 0, .slice none 0 0, .slice none 0 0, .slice none 0 0], .bool false]) ∧ Sat B w0 w' F := by
  have hS1 := h.alloc (.cells #[.int .i64 0, .bool false, .int .i64 0, .int .i64 0, .int .i64 0, .slice none 0 0, .slice none 0 0, .slice none 0 0, .slice none 0 0] 219)
  have c1 := dns_empty A d hS1
  generalize hq : w.heap.size = q at *
  generalize hW1 : w.alloc (.cells #[.int .i64 0, .bool false, .int .i64 0, .int .i64 0, .int .i64 0, .slice none 0 0, .slice none 0 0, .slice none 0 0, .slice none 0 0] 219) = W1 at *
  clear h hS1
  go_enter Tryz.func91, Tryz.ntmps91
  go_wp2_with fail
  refine c1.mono ?_
  rintro e w2 ⟨fb, rfl, hS2⟩
  clear c1
  have hS3 := (hS2.alloc_ (.cells #[.int .i64 0, .bool false, .int .i64 0, .int .i64 0, .int .i64 0, .slice none 0 0, .slice none 0 0, .slice none 0 0, .slice none 0 0] 219)).alloc (.cells #[.int .i64 0] 58)
  simp only [World.size_alloc] at hS3
  have ca := as_wrap_w 3 fb (.int .i64 0) (w2.heap.size + 1) _ (hS3.et (by omega) hE) (cell_heap hS3.heap rfl) (frozen_of hS3.heap) (cell_heap hS3.pull2.heap rfl)
  go_wp2_with fail
  refine ca.mono ?_
  rintro e w3 ⟨rfl, hw3⟩
  have hS4 : Sat B w0 w3 (blk (w2.heap.size + 1) (.cells (#[.int .i64 0].setIfInBounds 0 (.int .i64 3)) 58) • blk fb (.cells #[.int .i64 0, .iface 58 (.int .i64 3)] 264) • blk q (.cells #[.int .i64 0, .bool false, .int .i64 0, .int .i64 0, .int .i64 0, .slice none 0 0, .slice none 0 0, .slice none 0 0, .slice none 0 0] 219) • F) := by
    rw [hw3]
    exact ((((hS3.alloc_ _).alloc_ _).alloc_ _).alloc_ _).setCell
  have hS5 := hS4.pull3
  clear hw3 ca hS3 hS4 hS2
  have hst1 := run_storeAt_row (P := Tryz.prog) (o := 0) (ty := 219) (v := .agg #[.int .i64 0, .bool false, .int .i64 0, .int .i64 0, .int .i64 0, .slice none 0 0, .slice none 0 0, .slice none 0 0, .slice none 0 0]) hS5.heap (by kernel_rfl) (by simp [Value.cells]) (by simp [Value.cells, Value.oneCell'])
  have hR1 := hS5.setRow (cs := #[.int .i64 0, .bool false, .int .i64 0, .int .i64 0, .int .i64 0, .slice none 0 0, .slice none 0 0, .slice none 0 0, .slice none 0 0])
  simp only [Value.cells] at hst1
  rw [show splice (#[.int .i64 0, .bool false, .int .i64 0, .int .i64 0, .int .i64 0, .slice none 0 0, .slice none 0 0, .slice none 0 0, .slice none 0 0] : Array Value) 0 (#[.int .i64 0, .bool false, .int .i64 0, .int .i64 0, .int .i64 0, .slice none 0 0, .slice none 0 0, .slice none 0 0, .slice none 0 0] : Array Value).toList = #[.int .i64 0, .bool false, .int .i64 0, .int .i64 0, .int .i64 0, .slice none 0 0, .slice none 0 0, .slice none 0 0, .slice none 0 0] by rfl] at hst1
  have hl1 : (Instr.loadAt 219 (.pointer (some ⟨q, 0, none⟩))).run Tryz.prog (w3.setRow q #[.int .i64 0, .bool false, .int .i64 0, .int .i64 0, .int .i64 0, .slice none 0 0, .slice none 0 0, .slice none 0 0, .slice none 0 0]) = .ok (.agg #[.int .i64 0, .bool false, .int .i64 0, .int .i64 0, .int .i64 0, .slice none 0 0, .slice none 0 0, .slice none 0 0, .slice none 0 0]) (w3.setRow q #[.int .i64 0, .bool false, .int .i64 0, .int .i64 0, .int .i64 0, .slice none 0 0, .slice none 0 0, .slice none 0 0, .slice none 0 0]) :=
    run_loadAt_row (cs := [.int .i64 0, .bool false, .int .i64 0, .int .i64 0, .int .i64 0, .slice none 0 0, .slice none 0 0, .slice none 0 0, .slice none 0 0]) hR1.heap Tryz.underlying219 rfl (by kernel_rfl) (fun j u hu => by simpa using hu)
  have HF := Lib.hid hR1.drop.drop.drop
  clear hS5 hR1
  go_wp2_with (refine wpList_store_run (t := 219) rfl rfl rfl rfl hst1 (stop_ ?_))
  unfold Stop
  go_wp2_with fail
  refine ret_cell_tmp rfl rfl rfl hl1 rfl ⟨rfl, HF.out⟩
end Go.Proofs.YtdcekoocnoackaaGreatDoor
