import Derived.Test.YtdcekoocnoackaaGreatDoorPart25
import Derived.Test.YtdcekoocnoackaaGreatDoorPart15
import Derived.Test.YtdcekoocnoackaaGreatDoorPart06

/-! rule.word, may, Right. -/
namespace Go.Proofs.YtdcekoocnoackaaGreatDoor
open Go Go.RowKit

theorem pol_net1 (j : Nat) (hj : j < 18) : pol1.toArray[3 + j]? = ([.bool false, .int .u8 0, .int .u8 0, .int .u8 0, .int .u8 0, .int .u8 0, .int .u8 0, .int .u8 0, .int .u8 0, .int .u8 0, .int .u8 0, .int .u8 0, .int .u8 0, .int .u8 0, .int .u8 0, .int .u8 0, .int .u8 0, .int .i64 0] : List Value)[j]? := by
  match j, hj with
  | 0, _ => rfl
  | 1, _ => rfl
  | 2, _ => rfl
  | 3, _ => rfl
  | 4, _ => rfl
  | 5, _ => rfl
  | 6, _ => rfl
  | 7, _ => rfl
  | 8, _ => rfl
  | 9, _ => rfl
  | 10, _ => rfl
  | 11, _ => rfl
  | 12, _ => rfl
  | 13, _ => rfl
  | 14, _ => rfl
  | 15, _ => rfl
  | 16, _ => rfl
  | 17, _ => rfl
  | (j + 18), h => omega
theorem pol_net2 (j : Nat) (hj : j < 18) : pol2.toArray[3 + j]? = ([.bool false, .int .u8 0, .int .u8 0, .int .u8 0, .int .u8 0, .int .u8 0, .int .u8 0, .int .u8 0, .int .u8 0, .int .u8 0, .int .u8 0, .int .u8 0, .int .u8 0, .int .u8 0, .int .u8 0, .int .u8 0, .int .u8 0, .int .i64 0] : List Value)[j]? := by
  match j, hj with
  | 0, _ => rfl
  | 1, _ => rfl
  | 2, _ => rfl
  | 3, _ => rfl
  | 4, _ => rfl
  | 5, _ => rfl
  | 6, _ => rfl
  | 7, _ => rfl
  | 8, _ => rfl
  | 9, _ => rfl
  | 10, _ => rfl
  | 11, _ => rfl
  | 12, _ => rfl
  | 13, _ => rfl
  | 14, _ => rfl
  | 15, _ => rfl
  | 16, _ => rfl
  | 17, _ => rfl
  | (j + 18), h => omega
theorem pol_net3 (j : Nat) (hj : j < 18) : pol3.toArray[3 + j]? = ([.bool false, .int .u8 10, .int .u8 0, .int .u8 0, .int .u8 0, .int .u8 0, .int .u8 0, .int .u8 0, .int .u8 0, .int .u8 0, .int .u8 0, .int .u8 0, .int .u8 0, .int .u8 0, .int .u8 0, .int .u8 0, .int .u8 0, .int .i64 8] : List Value)[j]? := by
  match j, hj with
  | 0, _ => rfl
  | 1, _ => rfl
  | 2, _ => rfl
  | 3, _ => rfl
  | 4, _ => rfl
  | 5, _ => rfl
  | 6, _ => rfl
  | 7, _ => rfl
  | 8, _ => rfl
  | 9, _ => rfl
  | 10, _ => rfl
  | 11, _ => rfl
  | 12, _ => rfl
  | 13, _ => rfl
  | 14, _ => rfl
  | 15, _ => rfl
  | 16, _ => rfl
  | 17, _ => rfl
  | (j + 18), h => omega
set_option maxRecDepth 8000 in
theorem proto_icmp (w : World) : Calls Tryz.prog 194 #[.string ⟨#[105, 99, 109, 112]⟩] w fun e w' => e = .returned (.tuple #[.int .i64 1, .bool true]) ∧ w' = w := by
  go_enter Tryz.func194, Tryz.ntmps194
  go_wp2_with fail
  go_ret2
  exact ⟨rfl, rfl⟩
theorem wpList_eql_w {P : Program} {w : World} {ops : Array Oper} {rest : List Oper} {o : Oper} {a : Act} {Q : Exit → Act → World → Prop} (hw : Region.wanted o (yielded ops a.tmps) = true) {t t' : TypeId} {x y : Operand} (ho : o.op = .binOp .eql t x y t') {xs ys : Array Value} {r : Bool} (hx : a.eval x = .agg xs) (hy : a.eval y = .agg ys)
    (hg : P.eqGuardType P.depth t = false) (hr : EqV P w 10000 t (.agg xs) (.agg ys) r) (h : wpList P ops Q rest (a.put o.dst (.bool r)) w) : wpList P ops Q (o :: rest) a w :=
  BigFrame.wpList_want hw fun _ hK => wp_eql_run ho hx hy hg hr (hK _ _ h)
set_option maxRecDepth 8000 in
set_option maxHeartbeats 1000000 in
theorem wordv_tcp (w : World) : Calls Tryz.prog 200 #[.int .i64 6] w fun e w' => e = .returned (.string ⟨#[116, 99, 112]⟩) ∧ Below w.heap.size w w' := by
  have hS := (Sat.start w).alloc (.cells #[.string ⟨#[116, 99, 112]⟩, .string ⟨#[117, 100, 112]⟩, .string ⟨#[105, 99, 109, 112]⟩, .string ⟨#[97, 110, 121]⟩] 9)
  have hB := hS.below
  have d0 : (w.alloc (.cells #[.string ⟨#[116, 99, 112]⟩, .string ⟨#[117, 100, 112]⟩, .string ⟨#[105, 99, 109, 112]⟩, .string ⟨#[97, 110, 121]⟩] 9)).cell? ⟨w.heap.size, 0, none⟩ = some (.string ⟨#[116, 99, 112]⟩) := cell_heap hS.heap rfl
  have d1 : (w.alloc (.cells #[.string ⟨#[116, 99, 112]⟩, .string ⟨#[117, 100, 112]⟩, .string ⟨#[105, 99, 109, 112]⟩, .string ⟨#[97, 110, 121]⟩] 9)).cell? ⟨w.heap.size, 1, none⟩ = some (.string ⟨#[117, 100, 112]⟩) := cell_heap hS.heap rfl
  have d2 : (w.alloc (.cells #[.string ⟨#[116, 99, 112]⟩, .string ⟨#[117, 100, 112]⟩, .string ⟨#[105, 99, 109, 112]⟩, .string ⟨#[97, 110, 121]⟩] 9)).cell? ⟨w.heap.size, 2, none⟩ = some (.string ⟨#[105, 99, 109, 112]⟩) := cell_heap hS.heap rfl
  have d3 : (w.alloc (.cells #[.string ⟨#[116, 99, 112]⟩, .string ⟨#[117, 100, 112]⟩, .string ⟨#[105, 99, 109, 112]⟩, .string ⟨#[97, 110, 121]⟩] 9)).cell? ⟨w.heap.size, 3, none⟩ = some (.string ⟨#[97, 110, 121]⟩) := cell_heap hS.heap rfl
  generalize hW : w.alloc (.cells #[.string ⟨#[116, 99, 112]⟩, .string ⟨#[117, 100, 112]⟩, .string ⟨#[105, 99, 109, 112]⟩, .string ⟨#[97, 110, 121]⟩] 9) = W1 at *
  clear hS
  go_enter Tryz.func200, Tryz.ntmps200
  go_wp2_with fail
  refine wp_loop_rounds 1 ?_
  rw [rounds_succ]
  go_wp2_with fail
  refine (proto_tcp _).mono ?_
  rintro e v0 ⟨rfl, rfl⟩
  go_wp2_with fail
  go_ret
  exact ⟨rfl, hB⟩
set_option maxRecDepth 8000 in
set_option maxHeartbeats 1000000 in
theorem wordv_udp (w : World) : Calls Tryz.prog 200 #[.int .i64 17] w fun e w' => e = .returned (.string ⟨#[117, 100, 112]⟩) ∧ Below w.heap.size w w' := by
  have hS := (Sat.start w).alloc (.cells #[.string ⟨#[116, 99, 112]⟩, .string ⟨#[117, 100, 112]⟩, .string ⟨#[105, 99, 109, 112]⟩, .string ⟨#[97, 110, 121]⟩] 9)
  have hB := hS.below
  have d0 : (w.alloc (.cells #[.string ⟨#[116, 99, 112]⟩, .string ⟨#[117, 100, 112]⟩, .string ⟨#[105, 99, 109, 112]⟩, .string ⟨#[97, 110, 121]⟩] 9)).cell? ⟨w.heap.size, 0, none⟩ = some (.string ⟨#[116, 99, 112]⟩) := cell_heap hS.heap rfl
  have d1 : (w.alloc (.cells #[.string ⟨#[116, 99, 112]⟩, .string ⟨#[117, 100, 112]⟩, .string ⟨#[105, 99, 109, 112]⟩, .string ⟨#[97, 110, 121]⟩] 9)).cell? ⟨w.heap.size, 1, none⟩ = some (.string ⟨#[117, 100, 112]⟩) := cell_heap hS.heap rfl
  have d2 : (w.alloc (.cells #[.string ⟨#[116, 99, 112]⟩, .string ⟨#[117, 100, 112]⟩, .string ⟨#[105, 99, 109, 112]⟩, .string ⟨#[97, 110, 121]⟩] 9)).cell? ⟨w.heap.size, 2, none⟩ = some (.string ⟨#[105, 99, 109, 112]⟩) := cell_heap hS.heap rfl
  have d3 : (w.alloc (.cells #[.string ⟨#[116, 99, 112]⟩, .string ⟨#[117, 100, 112]⟩, .string ⟨#[105, 99, 109, 112]⟩, .string ⟨#[97, 110, 121]⟩] 9)).cell? ⟨w.heap.size, 3, none⟩ = some (.string ⟨#[97, 110, 121]⟩) := cell_heap hS.heap rfl
  generalize hW : w.alloc (.cells #[.string ⟨#[116, 99, 112]⟩, .string ⟨#[117, 100, 112]⟩, .string ⟨#[105, 99, 109, 112]⟩, .string ⟨#[97, 110, 121]⟩] 9) = W1 at *
  clear hS
  go_enter Tryz.func200, Tryz.ntmps200
  go_wp2_with fail
  refine wp_loop_rounds 2 ?_
  rw [rounds_succ]
  go_wp2_with fail
  refine (proto_tcp _).mono ?_
  rintro e v0 ⟨rfl, rfl⟩
  go_wp2_with fail
  rw [rounds_succ]
  go_wp2_with fail
  refine (proto_udp _).mono ?_
  rintro e v1 ⟨rfl, rfl⟩
  go_wp2_with fail
  go_ret
  exact ⟨rfl, hB⟩
set_option maxRecDepth 8000 in
set_option maxHeartbeats 1000000 in
theorem wordv_any (w : World) : Calls Tryz.prog 200 #[.int .i64 256] w fun e w' => e = .returned (.string ⟨#[97, 110, 121]⟩) ∧ Below w.heap.size w w' := by
  have hS := (Sat.start w).alloc (.cells #[.string ⟨#[116, 99, 112]⟩, .string ⟨#[117, 100, 112]⟩, .string ⟨#[105, 99, 109, 112]⟩, .string ⟨#[97, 110, 121]⟩] 9)
  have hB := hS.below
  have d0 : (w.alloc (.cells #[.string ⟨#[116, 99, 112]⟩, .string ⟨#[117, 100, 112]⟩, .string ⟨#[105, 99, 109, 112]⟩, .string ⟨#[97, 110, 121]⟩] 9)).cell? ⟨w.heap.size, 0, none⟩ = some (.string ⟨#[116, 99, 112]⟩) := cell_heap hS.heap rfl
  have d1 : (w.alloc (.cells #[.string ⟨#[116, 99, 112]⟩, .string ⟨#[117, 100, 112]⟩, .string ⟨#[105, 99, 109, 112]⟩, .string ⟨#[97, 110, 121]⟩] 9)).cell? ⟨w.heap.size, 1, none⟩ = some (.string ⟨#[117, 100, 112]⟩) := cell_heap hS.heap rfl
  have d2 : (w.alloc (.cells #[.string ⟨#[116, 99, 112]⟩, .string ⟨#[117, 100, 112]⟩, .string ⟨#[105, 99, 109, 112]⟩, .string ⟨#[97, 110, 121]⟩] 9)).cell? ⟨w.heap.size, 2, none⟩ = some (.string ⟨#[105, 99, 109, 112]⟩) := cell_heap hS.heap rfl
  have d3 : (w.alloc (.cells #[.string ⟨#[116, 99, 112]⟩, .string ⟨#[117, 100, 112]⟩, .string ⟨#[105, 99, 109, 112]⟩, .string ⟨#[97, 110, 121]⟩] 9)).cell? ⟨w.heap.size, 3, none⟩ = some (.string ⟨#[97, 110, 121]⟩) := cell_heap hS.heap rfl
  generalize hW : w.alloc (.cells #[.string ⟨#[116, 99, 112]⟩, .string ⟨#[117, 100, 112]⟩, .string ⟨#[105, 99, 109, 112]⟩, .string ⟨#[97, 110, 121]⟩] 9) = W1 at *
  clear hS
  go_enter Tryz.func200, Tryz.ntmps200
  go_wp2_with fail
  refine wp_loop_rounds 4 ?_
  rw [rounds_succ]
  go_wp2_with fail
  refine (proto_tcp _).mono ?_
  rintro e v0 ⟨rfl, rfl⟩
  go_wp2_with fail
  rw [rounds_succ]
  go_wp2_with fail
  refine (proto_udp _).mono ?_
  rintro e v1 ⟨rfl, rfl⟩
  go_wp2_with fail
  rw [rounds_succ]
  go_wp2_with fail
  refine (proto_icmp _).mono ?_
  rintro e v2 ⟨rfl, rfl⟩
  go_wp2_with fail
  rw [rounds_succ]
  go_wp2_with fail
  refine (proto_any _).mono ?_
  rintro e v3 ⟨rfl, rfl⟩
  go_wp2_with fail
  go_ret
  exact ⟨rfl, hB⟩
set_option maxRecDepth 8000 in
set_option maxHeartbeats 4000000 in
theorem may_1 (w : World) (hm : Mx w) : Calls Tryz.prog 134 #[.agg pol1.toArray] w fun e w' => e = .returned (.bool true) ∧ Below w.heap.size w w' := by
  have hS := (Sat.start w).alloc (.cells pol1.toArray 170)
  have hm1 := hm.below hS.below
  have c1 := wordv_udp (w.alloc (.cells pol1.toArray 170))
  have d0 : (w.alloc (.cells pol1.toArray 170)).cell? ⟨w.heap.size, 21, none⟩ = some (.int .i64 17) := cell_heap hS.heap rfl
  have hq : ∀ W, Sat w.heap.size w W (blk w.heap.size (.cells pol1.toArray 170) • emp) → W.cell? ⟨w.heap.size, 1, none⟩ = some (.string ⟨#[97]⟩) ∧ W.cell? ⟨w.heap.size, 2, none⟩ = some (.bool true) ∧ W.cell? ⟨w.heap.size, 22, none⟩ = some (.int .i64 1) ∧ W.cell? ⟨w.heap.size, 23, none⟩ = some (.int .i64 9) ∧ (Instr.loadAt 168 (.pointer (some ⟨w.heap.size, 3, none⟩))).run Tryz.prog W = .ok (.agg #[.bool false, .int .u8 0, .int .u8 0, .int .u8 0, .int .u8 0, .int .u8 0, .int .u8 0, .int .u8 0, .int .u8 0, .int .u8 0, .int .u8 0, .int .u8 0, .int .u8 0, .int .u8 0, .int .u8 0, .int .u8 0, .int .u8 0, .int .i64 0]) W := fun W hW =>
    ⟨cell_heap hW.heap rfl, cell_heap hW.heap rfl, cell_heap hW.heap rfl, cell_heap hW.heap rfl, run_loadAt_row (cs := [.bool false, .int .u8 0, .int .u8 0, .int .u8 0, .int .u8 0, .int .u8 0, .int .u8 0, .int .u8 0, .int .u8 0, .int .u8 0, .int .u8 0, .int .u8 0, .int .u8 0, .int .u8 0, .int .u8 0, .int .u8 0, .int .u8 0, .int .i64 0]) hW.heap Tryz.underlying168 rfl (by kernel_rfl) (fun j u hu => by rw [← hu]; exact pol_net1 j (List.getElem?_eq_some_iff.1 hu).1)⟩
  generalize hq0 : w.heap.size = q at *
  generalize pol1.toArray = PA at *
  generalize hW : w.alloc (.cells PA 170) = W1 at *
  clear hm
  go_enter Tryz.func134, Tryz.ntmps134
  go_wp2_with fail
  refine c1.mono ?_
  rintro e w2 ⟨rfl, hb2⟩
  have hS2 := hS.below_ hb2
  obtain ⟨d1, d2, d3, d4, hl⟩ := hq _ hS2
  have hm2 := hm1.below hb2
  clear hS hb2 c1 d0 hm1
  have c2 := plain_a w2 hm2
  go_wp2_with fail
  refine c2.mono ?_
  rintro e w3 ⟨rfl, hb3⟩
  have hS3 := hS2.below_ hb3
  obtain ⟨_, _, _, _, hl3⟩ := hq _ hS3
  have hB := hS3.below
  have heq : EqV Tryz.prog w3 10000 168 (.agg #[.bool false, .int .u8 0, .int .u8 0, .int .u8 0, .int .u8 0, .int .u8 0, .int .u8 0, .int .u8 0, .int .u8 0, .int .u8 0, .int .u8 0, .int .u8 0, .int .u8 0, .int .u8 0, .int .u8 0, .int .u8 0, .int .u8 0, .int .i64 0]) (.agg #[.bool false, .int .u8 0, .int .u8 0, .int .u8 0, .int .u8 0, .int .u8 0, .int .u8 0, .int .u8 0, .int .u8 0, .int .u8 0, .int .u8 0, .int .u8 0, .int .u8 0, .int .u8 0, .int .u8 0, .int .u8 0, .int .u8 0, .int .i64 0]) true := show (Op.equalIn 10000 168 (.agg #[.bool false, .int .u8 0, .int .u8 0, .int .u8 0, .int .u8 0, .int .u8 0, .int .u8 0, .int .u8 0, .int .u8 0, .int .u8 0, .int .u8 0, .int .u8 0, .int .u8 0, .int .u8 0, .int .u8 0, .int .u8 0, .int .u8 0, .int .i64 0]) (.agg #[.bool false, .int .u8 0, .int .u8 0, .int .u8 0, .int .u8 0, .int .u8 0, .int .u8 0, .int .u8 0, .int .u8 0, .int .u8 0, .int .u8 0, .int .u8 0, .int .u8 0, .int .u8 0, .int .u8 0, .int .u8 0, .int .u8 0, .int .i64 0])).run Tryz.prog w3 = .ok true w3 by kernel_rfl
  clear hl d1 d2 d3 d4 hS2 hS3 hq hb3 c2
  go_wp2_with (first | (refine wpList_load_w rfl (t := 168) rfl rfl hl3 ?_) | (refine wpList_eql_w rfl rfl rfl rfl (by kernel_rfl) heq ?_))
  go_ret
  exact ⟨rfl, hB⟩
set_option maxRecDepth 8000 in
set_option maxHeartbeats 4000000 in
theorem may_2 (w : World) (hm : Mx w) : Calls Tryz.prog 134 #[.agg pol2.toArray] w fun e w' => e = .returned (.bool true) ∧ Below w.heap.size w w' := by
  have hS := (Sat.start w).alloc (.cells pol2.toArray 170)
  have hm1 := hm.below hS.below
  have c1 := wordv_tcp (w.alloc (.cells pol2.toArray 170))
  have d0 : (w.alloc (.cells pol2.toArray 170)).cell? ⟨w.heap.size, 21, none⟩ = some (.int .i64 6) := cell_heap hS.heap rfl
  have hq : ∀ W, Sat w.heap.size w W (blk w.heap.size (.cells pol2.toArray 170) • emp) → W.cell? ⟨w.heap.size, 1, none⟩ = some (.string ⟨#[98, 46, 97]⟩) ∧ W.cell? ⟨w.heap.size, 2, none⟩ = some (.bool false) ∧ W.cell? ⟨w.heap.size, 22, none⟩ = some (.int .i64 0) ∧ W.cell? ⟨w.heap.size, 23, none⟩ = some (.int .i64 65535) ∧ (Instr.loadAt 168 (.pointer (some ⟨w.heap.size, 3, none⟩))).run Tryz.prog W = .ok (.agg #[.bool false, .int .u8 0, .int .u8 0, .int .u8 0, .int .u8 0, .int .u8 0, .int .u8 0, .int .u8 0, .int .u8 0, .int .u8 0, .int .u8 0, .int .u8 0, .int .u8 0, .int .u8 0, .int .u8 0, .int .u8 0, .int .u8 0, .int .i64 0]) W := fun W hW =>
    ⟨cell_heap hW.heap rfl, cell_heap hW.heap rfl, cell_heap hW.heap rfl, cell_heap hW.heap rfl, run_loadAt_row (cs := [.bool false, .int .u8 0, .int .u8 0, .int .u8 0, .int .u8 0, .int .u8 0, .int .u8 0, .int .u8 0, .int .u8 0, .int .u8 0, .int .u8 0, .int .u8 0, .int .u8 0, .int .u8 0, .int .u8 0, .int .u8 0, .int .u8 0, .int .i64 0]) hW.heap Tryz.underlying168 rfl (by kernel_rfl) (fun j u hu => by rw [← hu]; exact pol_net2 j (List.getElem?_eq_some_iff.1 hu).1)⟩
  generalize hq0 : w.heap.size = q at *
  generalize pol2.toArray = PA at *
  generalize hW : w.alloc (.cells PA 170) = W1 at *
  clear hm
  go_enter Tryz.func134, Tryz.ntmps134
  go_wp2_with fail
  refine c1.mono ?_
  rintro e w2 ⟨rfl, hb2⟩
  have hS2 := hS.below_ hb2
  obtain ⟨d1, d2, d3, d4, hl⟩ := hq _ hS2
  have hm2 := hm1.below hb2
  clear hS hb2 c1 d0 hm1
  have c2 := plain_ba w2 hm2
  go_wp2_with fail
  refine c2.mono ?_
  rintro e w3 ⟨rfl, hb3⟩
  have hS3 := hS2.below_ hb3
  obtain ⟨_, _, _, _, hl3⟩ := hq _ hS3
  have hB := hS3.below
  have heq : EqV Tryz.prog w3 10000 168 (.agg #[.bool false, .int .u8 0, .int .u8 0, .int .u8 0, .int .u8 0, .int .u8 0, .int .u8 0, .int .u8 0, .int .u8 0, .int .u8 0, .int .u8 0, .int .u8 0, .int .u8 0, .int .u8 0, .int .u8 0, .int .u8 0, .int .u8 0, .int .i64 0]) (.agg #[.bool false, .int .u8 0, .int .u8 0, .int .u8 0, .int .u8 0, .int .u8 0, .int .u8 0, .int .u8 0, .int .u8 0, .int .u8 0, .int .u8 0, .int .u8 0, .int .u8 0, .int .u8 0, .int .u8 0, .int .u8 0, .int .u8 0, .int .i64 0]) true := show (Op.equalIn 10000 168 (.agg #[.bool false, .int .u8 0, .int .u8 0, .int .u8 0, .int .u8 0, .int .u8 0, .int .u8 0, .int .u8 0, .int .u8 0, .int .u8 0, .int .u8 0, .int .u8 0, .int .u8 0, .int .u8 0, .int .u8 0, .int .u8 0, .int .u8 0, .int .i64 0]) (.agg #[.bool false, .int .u8 0, .int .u8 0, .int .u8 0, .int .u8 0, .int .u8 0, .int .u8 0, .int .u8 0, .int .u8 0, .int .u8 0, .int .u8 0, .int .u8 0, .int .u8 0, .int .u8 0, .int .u8 0, .int .u8 0, .int .u8 0, .int .i64 0])).run Tryz.prog w3 = .ok true w3 by kernel_rfl
  clear hl d1 d2 d3 d4 hS2 hS3 hq hb3 c2
  go_wp2_with (first | (refine wpList_load_w rfl (t := 168) rfl rfl hl3 ?_) | (refine wpList_eql_w rfl rfl rfl rfl (by kernel_rfl) heq ?_))
  go_ret
  exact ⟨rfl, hB⟩
set_option maxRecDepth 8000 in
set_option maxHeartbeats 4000000 in
theorem may_3 (w : World) (hm : Mx w) : Calls Tryz.prog 134 #[.agg pol3.toArray] w fun e w' => e = .returned (.bool true) ∧ Below w.heap.size w w' := by
  have hS := (Sat.start w).alloc (.cells pol3.toArray 170)
  have hm1 := hm.below hS.below
  have c1 := wordv_any (w.alloc (.cells pol3.toArray 170))
  have d0 : (w.alloc (.cells pol3.toArray 170)).cell? ⟨w.heap.size, 21, none⟩ = some (.int .i64 256) := cell_heap hS.heap rfl
  have hq : ∀ W, Sat w.heap.size w W (blk w.heap.size (.cells pol3.toArray 170) • emp) → W.cell? ⟨w.heap.size, 1, none⟩ = some (.string ⟨#[]⟩) ∧ W.cell? ⟨w.heap.size, 2, none⟩ = some (.bool false) ∧ W.cell? ⟨w.heap.size, 22, none⟩ = some (.int .i64 0) ∧ W.cell? ⟨w.heap.size, 23, none⟩ = some (.int .i64 65535) ∧ (Instr.loadAt 168 (.pointer (some ⟨w.heap.size, 3, none⟩))).run Tryz.prog W = .ok (.agg #[.bool false, .int .u8 10, .int .u8 0, .int .u8 0, .int .u8 0, .int .u8 0, .int .u8 0, .int .u8 0, .int .u8 0, .int .u8 0, .int .u8 0, .int .u8 0, .int .u8 0, .int .u8 0, .int .u8 0, .int .u8 0, .int .u8 0, .int .i64 8]) W := fun W hW =>
    ⟨cell_heap hW.heap rfl, cell_heap hW.heap rfl, cell_heap hW.heap rfl, cell_heap hW.heap rfl, run_loadAt_row (cs := [.bool false, .int .u8 10, .int .u8 0, .int .u8 0, .int .u8 0, .int .u8 0, .int .u8 0, .int .u8 0, .int .u8 0, .int .u8 0, .int .u8 0, .int .u8 0, .int .u8 0, .int .u8 0, .int .u8 0, .int .u8 0, .int .u8 0, .int .i64 8]) hW.heap Tryz.underlying168 rfl (by kernel_rfl) (fun j u hu => by rw [← hu]; exact pol_net3 j (List.getElem?_eq_some_iff.1 hu).1)⟩
  generalize hq0 : w.heap.size = q at *
  generalize pol3.toArray = PA at *
  generalize hW : w.alloc (.cells PA 170) = W1 at *
  clear hm
  go_enter Tryz.func134, Tryz.ntmps134
  go_wp2_with fail
  refine c1.mono ?_
  rintro e w2 ⟨rfl, hb2⟩
  have hS2 := hS.below_ hb2
  obtain ⟨d1, d2, d3, d4, hl⟩ := hq _ hS2
  have hm2 := hm1.below hb2
  clear hS hb2 c1 d0 hm1
  have c2 := rightNet_8 w2
  go_wp2_with (refine wpList_load_w rfl (t := 168) rfl rfl hl (stop_ ?_))
  unfold Stop
  go_wp2_with fail
  refine c2.mono ?_
  rintro e w3 ⟨rfl, hb3⟩
  have hB := (hS2.below_ hb3).below
  go_wp2_with fail
  go_ret
  exact ⟨rfl, hB⟩
end Go.Proofs.YtdcekoocnoackaaGreatDoor
