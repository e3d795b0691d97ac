import Derived.Test.YtdcekoocnoackaaGreatDoorPart27

/-! labels.way at the two names of the text. -/
namespace Go.Proofs.YtdcekoocnoackaaGreatDoor
open Go Go.RowKit

set_option maxRecDepth 8000 in
theorem reverse_1 {g c : Nat} {w : World} : Calls Tryz.prog 205 #[.slice (some ⟨g, 0, none⟩) 1 c] w fun e w' => e = .returned (.tuple #[]) ∧ w' = w := by
  go_enter Tryz.func205, Tryz.ntmps205
  go_wp2_with fail
  refine wp_loop_rounds 1 ?_
  rw [rounds_succ]
  go_wp2_with fail
  go_end0
  exact ⟨rfl, rfl⟩
theorem reverse_2 {B : Nat} {w0 w : World} {F : HP} {g c : Nat} {cur : Array Value} (h : Sat B w0 w (blk g (.cells cur 9) • F)) (h0 : cur[0]? = some (.string ⟨#[98]⟩)) (h1 : cur[1]? = some (.string ⟨#[97]⟩)) :
    Calls Tryz.prog 205 #[.slice (some ⟨g, 0, none⟩) 2 c] w fun e w' => e = .returned (.tuple #[]) ∧ Sat B w0 w' (blk g (.cells ((cur.setIfInBounds 0 (.string ⟨#[97]⟩)).setIfInBounds 1 (.string ⟨#[98]⟩)) 9) • F) := by
  have c1 := Tryz.slices_Reverse_string_cells g 0 2 c (fun i => if i = 0 then ⟨#[98]⟩ else ⟨#[97]⟩) w (by decide) (fun i hi => by
      rw [Nat.zero_add]
      match i, hi with
      | 0, _ => exact cell_heap h.heap h0
      | 1, _ => exact cell_heap h.heap h1
      | (i + 2), hi => omega) (fun j hj => by simp [World.frozen?, h.heap])
  refine c1.mono ?_
  rintro e w' ⟨rfl, q, rfl⟩
  refine ⟨rfl, ?_⟩
  exact ((h.drewN q).setCell (i := 0) (v := .string ⟨#[97]⟩)).setCell (i := 1) (v := .string ⟨#[98]⟩)
set_option maxRecDepth 8000 in
set_option maxHeartbeats 2000000 in
theorem way_a {B : Nat} {w0 w : World} {F : HP} (h : Sat B w0 w F) (hm : Mx w) :
    Calls Tryz.prog 135 #[.string ⟨#[97]⟩] w fun e w' => ∃ g c cur, e = .returned (.slice (some ⟨g, 0, none⟩) 1 c) ∧ cur[0]? = some (.string ⟨#[97]⟩) ∧ Sat B w0 w' (blk g (.cells cur 9) • F) := by
  have c1 := labels_a w hm
  have hS1 := Sat.arr_shut (e := 9) (sz := 1) (n := 1) (cap := 1) (xs := [.string ⟨#[97]⟩]) (by decide) (by decide) rfl rfl (h.alloc (.cells #[.string ⟨#[97]⟩] 9))
  have c2 := cloneS_any (n := 0) (by intro u hu; simp at hu; rw [hu]; rfl) (by decide) hS1
  clear h hm hS1
  go_enter Tryz.func135, Tryz.ntmps135
  go_wp2_with fail
  refine c1.mono ?_
  rintro e w1 ⟨rfl, rfl⟩
  go_wp2_with fail
  refine c2.mono ?_
  rintro e w2 ⟨g, c, rfl, hS2⟩
  obtain ⟨cur, q4, hS3⟩ : ∃ cur : Array Value, cur.toList.take (1 * 1) = [.string ⟨#[97]⟩] ∧ Sat B w0 w2 (blk g (.cells cur 9) • F) := by
    rcases hS2.arr_open with ⟨hv, _⟩ | ⟨g', cap, cur, hv, q1, q2, q3, q4, hO⟩
    · cases hv
    · simp only [Value.slice.injEq] at hv
      obtain ⟨e1, _, rfl⟩ := hv
      simp only [Option.some.injEq, Addr.mk.injEq] at e1
      obtain ⟨rfl, _⟩ := e1
      exact ⟨cur, q4, (hO.pull2).drop⟩
  have hget : ∀ (j : Nat) (u : Value), ([.string ⟨#[97]⟩] : List Value)[j]? = some u → cur[j]? = some u := by
    intro j u hu
    rw [← q4, List.getElem?_take] at hu
    split at hu
    · simpa using hu
    · cases hu
  have c3 := reverse_1 (g := g) (c := c) (w := w2)
  have HF := Lib.hid hS3
  have HG := Lib.hid (hget 0 _ rfl)
  clear hS2 hS3 hget q4 c1 c2
  go_wp2_with fail
  refine c3.mono ?_
  rintro e w3 ⟨rfl, rfl⟩
  go_wp2_with fail
  go_ret
  exact ⟨g, c, cur, rfl, HG.out, HF.out⟩
set_option maxRecDepth 8000 in
set_option maxHeartbeats 2000000 in
theorem way_ba {B : Nat} {w0 w : World} {F : HP} (h : Sat B w0 w F) (hm : Mx w) :
    Calls Tryz.prog 135 #[.string ⟨#[98, 46, 97]⟩] w fun e w' => ∃ g c cur, e = .returned (.slice (some ⟨g, 0, none⟩) 2 c) ∧ cur[0]? = some (.string ⟨#[97]⟩) ∧ cur[1]? = some (.string ⟨#[98]⟩) ∧ Sat B w0 w' (blk g (.cells cur 9) • F) := by
  have c1 := labels_ba w hm
  have hS1 := Sat.arr_shut (e := 9) (sz := 1) (n := 2) (cap := 2) (xs := [.string ⟨#[98]⟩, .string ⟨#[97]⟩]) (by decide) (by decide) rfl rfl (h.alloc (.cells #[.string ⟨#[98]⟩, .string ⟨#[97]⟩] 9))
  have c2 := cloneS_any (n := 1) (by intro u hu; simp at hu; rcases hu with rfl | rfl <;> rfl) (by decide) hS1
  clear h hm hS1
  go_enter Tryz.func135, Tryz.ntmps135
  go_wp2_with fail
  refine c1.mono ?_
  rintro e w1 ⟨rfl, rfl⟩
  go_wp2_with fail
  refine c2.mono ?_
  rintro e w2 ⟨g, c, rfl, hS2⟩
  obtain ⟨cur, q4, hS3⟩ : ∃ cur : Array Value, cur.toList.take (2 * 1) = [.string ⟨#[98]⟩, .string ⟨#[97]⟩] ∧ Sat B w0 w2 (blk g (.cells cur 9) • F) := by
    rcases hS2.arr_open with ⟨hv, _⟩ | ⟨g', cap, cur, hv, q1, q2, q3, q4, hO⟩
    · cases hv
    · simp only [Value.slice.injEq] at hv
      obtain ⟨e1, _, rfl⟩ := hv
      simp only [Option.some.injEq, Addr.mk.injEq] at e1
      obtain ⟨rfl, _⟩ := e1
      exact ⟨cur, q4, (hO.pull2).drop⟩
  have hget : ∀ (j : Nat) (u : Value), ([.string ⟨#[98]⟩, .string ⟨#[97]⟩] : List Value)[j]? = some u → cur[j]? = some u := by
    intro j u hu
    rw [← q4, List.getElem?_take] at hu
    split at hu
    · simpa using hu
    · cases hu
  have c3 := reverse_2 (c := c) hS3 (hget 0 _ rfl) (hget 1 _ rfl)
  have HG := Lib.hid (And.intro (hget 0 _ rfl) (hget 1 _ rfl))
  clear hS2 hS3 hget q4 c1 c2
  go_wp2_with fail
  refine c3.mono ?_
  rintro e w3 ⟨rfl, hS4⟩
  have HF := Lib.hid hS4
  clear hS4 c3
  go_wp2_with fail
  go_ret
  have hs : 2 ≤ cur.size := (Array.getElem?_eq_some_iff.1 HG.out.2).1
  refine ⟨g, c, _, rfl, ?_, ?_, HF.out⟩
  · rw [Array.getElem?_setIfInBounds_ne (by decide), Array.getElem?_setIfInBounds_self_of_lt (by omega)]
  · rw [Array.getElem?_setIfInBounds_self_of_lt (by rw [Array.size_setIfInBounds]; omega)]
end Go.Proofs.YtdcekoocnoackaaGreatDoor

/-! labels.Add of the two names. -/
namespace Go.Proofs.YtdcekoocnoackaaGreatDoor
open Go Go.RowKit

theorem wpList_mapUpdate_run {P : Program} {w w' : World} {ops : Array Oper} {rest : List Oper} {o : Oper} {a : Act} {Q : Exit → Act → World → Prop} (hgd : o.guard = none) {t : TypeId} {x y z : Operand} (ho : o.op = .mapUpdate t x y z) {m k v : Value} (hx : a.eval x = m) (hy : a.eval y = k) (hz : a.eval z = v)
    (hr : (Instr.mapUpdate t m k v).run P w = .ok () w') (h : wpList P ops Q rest (a.put o.dst undef) w') : wpList P ops Q (o :: rest) a w :=
  wpList_plain hgd fun _ hK => wp_mapUpdate_run ho hx hy hz hr (hK _ _ h)
set_option maxRecDepth 8000 in
set_option maxHeartbeats 4000000 in
theorem labAdd_a {B : Nat} {w0 w : World} {F : HP} {tb nb : Nat} (h : Sat B w0 w (blk tb (.cells #[.pointer (some ⟨nb, 0, none⟩), .int .i64 0] 278) • blk nb (.cells #[.slice none 0 0, .slice none 0 0, .map none] 276) • F)) (hm : Mx w) :
    Calls Tryz.prog 69 #[.pointer (some ⟨tb, 0, none⟩), .string ⟨#[97]⟩, .bool true, .int .i64 0] w fun e w' => e = .returned (.tuple #[]) ∧ ∃ (m n1 : Nat) (sl : Value), Sat B w0 w' (blk tb (.cells #[.pointer (some ⟨nb, 0, none⟩), .int .i64 1] 278) • blk nb (.cells #[.slice none 0 0, .slice none 0 0, .map (some m)] 276) • blk m (.map #[{ key := .string ⟨#[97]⟩, val := .pointer (some ⟨n1, 0, none⟩), born := 0 }] 1) • blk n1 (.cells #[.slice none 0 0, sl, .map none] 276) • F) := by
  have c1 := way_a h hm
  have d0 : w.cell? ⟨tb, 0, none⟩ = some (.pointer (some ⟨nb, 0, none⟩)) := cell_heap h.heap rfl
  clear h hm
  go_enter Tryz.func69, Tryz.ntmps69
  go_wp2_with fail
  refine c1.mono ?_
  rintro e w1 ⟨g, c, cur, rfl, hg, hS1⟩
  clear c1 d0
  have d0 : w1.cell? ⟨g, 0, none⟩ = some (.string ⟨#[97]⟩) := cell_heap hS1.heap hg
  have hS2 := hS1.drop.pull2
  have d1 : w1.cell? ⟨nb, 2, none⟩ = some (.map none) := cell_heap hS2.heap rfl
  clear hS1 hg
  go_wp2_with fail
  refine wp_loop_rounds 2 ?_
  rw [rounds_succ]
  obtain ⟨W2, hst2, hS3⟩ := one_storeS (o := 2) (ty := 274) (u := .map (some w1.heap.size)) (hS2.alloc (.map #[] 0)).pull2 (by kernel_rfl) (by simp) rfl rfl
  clear hS2
  have hq : (binOp .eql 274 (.map none) (.map none)).run Tryz.prog w1 = .ok (.bool true) w1 := by kernel_rfl
  have hmk : (Instr.makeMap 274 none).run Tryz.prog w1 = .ok (.map (some w1.heap.size)) (w1.alloc (.map #[] 0)) := by kernel_rfl
  go_wp2_with (refine wpList_store_run (t := 274) rfl rfl rfl rfl hst2 (stop_ ?_))
  unfold Stop
  clear hst2 d0 d1 hq hmk
  generalize w1.heap.size = m at *
  have d1 : W2.cell? ⟨nb, 2, none⟩ = some (.map (some m)) := cell_heap hS3.heap rfl
  have hlk := lab_no (k := ⟨#[97]⟩) hS3.pull2.heap rfl
  obtain ⟨W3, hup, hS4⟩ := lab_put (v := .pointer (some ⟨W2.heap.size, 0, none⟩)) (k := ⟨#[97]⟩) (hS3.alloc (.cells #[.slice none 0 0, .slice none 0 0, .map none] 276)).pull3
  go_wp2_with (refine wpList_lookup_run rfl rfl rfl rfl hlk (stop_ ?_))
  unfold Stop
  clear hlk d1
  have d2 : (W2.alloc (.cells #[.slice none 0 0, .slice none 0 0, .map none] 276)).cell? ⟨nb, 2, none⟩ = some (.map (some m)) := cell_heap (hS3.alloc (.cells #[.slice none 0 0, .slice none 0 0, .map none] 276)).pull2.heap rfl
  go_wp2_with (refine wpList_mapUpdate_run rfl rfl rfl rfl rfl hup (stop_ ?_))
  unfold Stop
  clear hup d2 hS3
  generalize W2.heap.size = n1 at *
  have e0 : W3.cell? ⟨tb, 1, none⟩ = some (.int .i64 0) := cell_heap hS4.pull4.heap rfl
  have e1 : W3.cell? ⟨n1, 1, none⟩ = some (.slice none 0 0) := cell_heap hS4.pull2.heap rfl
  obtain ⟨W4, hst4, hS5⟩ := one_storeS (o := 1) (ty := 3) (u := .int .i64 1) hS4.pull4 (by kernel_rfl) (by simp) rfl rfl
  go_wp2_with fail
  rw [rounds_succ]
  go_wp2_with (refine wpList_store_run (t := 3) rfl rfl rfl rfl hst4 (stop_ ?_))
  unfold Stop
  clear hst4 e0 e1 hS4
  have e1 : W4.cell? ⟨n1, 1, none⟩ = some (.slice none 0 0) := cell_heap hS5.pull3.heap rfl
  obtain ⟨v8, W8, hrun, hY8⟩ := (arr_nil (e := 3) (sz := 1) (hS5.pull3.alloc (.cells #[.int .i64 0] 3))).append (m := 1) (news := [.int .i64 0]) (t := 208) (ty := 208) (P := Tryz.prog) (x := .slice (some ⟨W4.heap.size, 0, none⟩) 1 1) Tryz.underlying208 (by kernel_rfl : (Tryz.prog.info? 3).map (fun i => (i.zero, i.size, i.bytes)) = some (some (.int .i64 0), 1, 8)) rfl (by decide) (reads_new (cs := [.int .i64 0])) rfl (by intro u hu; simp at hu; rw [hu]; rfl) (by decide) (by decide)
  obtain ⟨A, c9, rfl⟩ := hY8.arr_form
  obtain ⟨Z8, hst8, hZ8⟩ := one_storeS (o := 1) (ty := 208) (u := .slice A 1 c9) hY8.pull3 (by kernel_rfl) (by simp) rfl rfl
  go_wp2_with (at_builtin; refine wpList_append_run rfl _ _ _ rfl rfl rfl hrun (stop_ ?_))
  unfold Stop
  clear hrun e1
  go_wp2_with (refine wpList_store_run (t := 208) rfl rfl rfl rfl hst8 (stop_ ?_))
  unfold Stop
  clear hst8
  have hfin : Sat B w0 Z8 (blk tb (.cells #[.pointer (some ⟨nb, 0, none⟩), .int .i64 1] 278) • blk nb (.cells #[.slice none 0 0, .slice none 0 0, .map (some m)] 276) • blk m (.map #[{ key := .string ⟨#[97]⟩, val := .pointer (some ⟨n1, 0, none⟩), born := 0 }] 1) • blk n1 (.cells #[.slice none 0 0, .slice A 1 c9, .map none] 276) • F) :=
    (hZ8.to (by ac_rfl : _ = arr 3 1 (.slice A (0 + 1) c9) (0 + 1) ([] ++ [.int .i64 0]) • blk W4.heap.size (.cells #[.int .i64 0] 3) • (blk tb (.cells (#[Value.pointer (some ⟨nb, 0, none⟩), .int .i64 0].setIfInBounds 1 (.int .i64 1)) 278) • blk nb (.cells (#[Value.slice none 0 0, .slice none 0 0, .map none].setIfInBounds 2 (.map (some m))) 276) • blk m (.map #[{ key := .string ⟨#[97]⟩, val := .pointer (some ⟨n1, 0, none⟩), born := 0 }] 1) • blk n1 (.cells (#[Value.slice none 0 0, .slice none 0 0, .map none].setIfInBounds 1 (.slice A 1 c9)) 276) • F))).drop.drop
  clear hZ8 hY8 hS5
  go_wp2_with fail
  go_end0
  exact ⟨rfl, m, n1, _, hfin⟩
set_option maxRecDepth 8000 in
set_option maxHeartbeats 4000000 in
theorem labAdd_b {B : Nat} {w0 w : World} {F : HP} {tb nb m n1 : Nat} {sl : Value} (h : Sat B w0 w (blk tb (.cells #[.pointer (some ⟨nb, 0, none⟩), .int .i64 1] 278) • blk nb (.cells #[.slice none 0 0, .slice none 0 0, .map (some m)] 276) • blk m (.map #[{ key := .string ⟨#[97]⟩, val := .pointer (some ⟨n1, 0, none⟩), born := 0 }] 1) • blk n1 (.cells #[.slice none 0 0, sl, .map none] 276) • F)) (hm : Mx w) :
    Calls Tryz.prog 69 #[.pointer (some ⟨tb, 0, none⟩), .string ⟨#[98, 46, 97]⟩, .bool false, .int .i64 1] w fun e w' => e = .returned (.tuple #[]) ∧ Sat B w0 w' F := by
  have c1 := way_ba h hm
  have d0 : w.cell? ⟨tb, 0, none⟩ = some (.pointer (some ⟨nb, 0, none⟩)) := cell_heap h.heap rfl
  clear h hm
  go_enter Tryz.func69, Tryz.ntmps69
  go_wp2_with fail
  refine c1.mono ?_
  rintro e w1 ⟨g, c, cur, rfl, hg, hg2, hS1⟩
  clear c1 d0
  have d0 : w1.cell? ⟨g, 0, none⟩ = some (.string ⟨#[97]⟩) := cell_heap hS1.heap hg
  have g1 : w1.cell? ⟨g, 1, none⟩ = some (.string ⟨#[98]⟩) := cell_heap hS1.heap hg2
  have d1 : w1.cell? ⟨nb, 2, none⟩ = some (.map (some m)) := cell_heap hS1.pull3.heap rfl
  have hlk := lab_yes (k := ⟨#[97]⟩) (j := 0) (v := .pointer (some ⟨n1, 0, none⟩)) hS1.pull4.heap rfl
  have hq : (binOp .eql 274 (.map (some m)) (.map none)).run Tryz.prog w1 = .ok (.bool false) w1 := by kernel_rfl
  have HG := Lib.hid hg2
  clear hg hg2
  go_wp2_with fail
  refine wp_loop_rounds 3 ?_
  rw [rounds_succ]
  go_wp2_with (refine wpList_lookup_run rfl rfl rfl rfl hlk (stop_ ?_))
  unfold Stop
  clear hlk
  go_wp2_with fail
  clear d0 d1 hq
  have hS2 := (hS1.to (by ac_rfl : _ = blk n1 (.cells #[.slice none 0 0, sl, .map none] 276) • blk g (.cells cur 9) • (blk tb (.cells #[.pointer (some ⟨nb, 0, none⟩), .int .i64 1] 278) • blk nb (.cells #[.slice none 0 0, .slice none 0 0, .map (some m)] 276) • blk m (.map #[{ key := .string ⟨#[97]⟩, val := .pointer (some ⟨n1, 0, none⟩), born := 0 }] 1) • F)))
  have d1 : w1.cell? ⟨n1, 2, none⟩ = some (.map none) := cell_heap hS2.heap rfl
  have hq : (binOp .eql 274 (.map none) (.map none)).run Tryz.prog w1 = .ok (.bool true) w1 := by kernel_rfl
  have hmk : (Instr.makeMap 274 none).run Tryz.prog w1 = .ok (.map (some w1.heap.size)) (w1.alloc (.map #[] 0)) := by kernel_rfl
  obtain ⟨W2, hst2, hS3⟩ := one_storeS (o := 2) (ty := 274) (u := .map (some w1.heap.size)) (hS2.alloc (.map #[] 0)).pull2 (by kernel_rfl) (by simp) rfl rfl
  clear hS2 hS1
  rw [rounds_succ]
  go_wp2_with (refine wpList_store_run (t := 274) rfl rfl rfl rfl hst2 (stop_ ?_))
  unfold Stop
  clear hst2 g1 d1 hq hmk
  generalize w1.heap.size = m2 at *
  have d1 : W2.cell? ⟨n1, 2, none⟩ = some (.map (some m2)) := cell_heap hS3.heap rfl
  have hlk := lab_no (k := ⟨#[98]⟩) hS3.pull2.heap rfl
  obtain ⟨W3, hup, hS4⟩ := lab_put (v := .pointer (some ⟨W2.heap.size, 0, none⟩)) (k := ⟨#[98]⟩) (hS3.alloc (.cells #[.slice none 0 0, .slice none 0 0, .map none] 276)).pull3
  go_wp2_with (refine wpList_lookup_run rfl rfl rfl rfl hlk (stop_ ?_))
  unfold Stop
  clear hlk d1
  have d2 : (W2.alloc (.cells #[.slice none 0 0, .slice none 0 0, .map none] 276)).cell? ⟨n1, 2, none⟩ = some (.map (some m2)) := cell_heap (hS3.alloc (.cells #[.slice none 0 0, .slice none 0 0, .map none] 276)).pull2.heap rfl
  go_wp2_with (refine wpList_mapUpdate_run rfl rfl rfl rfl rfl hup (stop_ ?_))
  unfold Stop
  clear hup d2 hS3
  generalize W2.heap.size = n2 at *
  have hS5 := hS4.drop.to (by ac_rfl : _ = blk tb (.cells #[.pointer (some ⟨nb, 0, none⟩), .int .i64 1] 278) • blk n2 (.cells #[.slice none 0 0, .slice none 0 0, .map none] 276) • (blk n1 (.cells (#[Value.slice none 0 0, sl, .map none].setIfInBounds 2 (.map (some m2))) 276) • blk g (.cells cur 9) • blk nb (.cells #[.slice none 0 0, .slice none 0 0, .map (some m)] 276) • blk m (.map #[{ key := .string ⟨#[97]⟩, val := .pointer (some ⟨n1, 0, none⟩), born := 0 }] 1) • F))
  have e0 : W3.cell? ⟨tb, 1, none⟩ = some (.int .i64 1) := cell_heap hS5.heap rfl
  obtain ⟨W4, hst4, hS6⟩ := one_storeS (o := 1) (ty := 3) (u := .int .i64 2) hS5 (by kernel_rfl) (by simp) rfl rfl
  go_wp2_with fail
  rw [rounds_succ]
  go_wp2_with (refine wpList_store_run (t := 3) rfl rfl rfl rfl hst4 (stop_ ?_))
  unfold Stop
  clear hst4 e0 hS5 hS4
  have e1 : W4.cell? ⟨n2, 0, none⟩ = some (.slice none 0 0) := cell_heap hS6.pull2.heap rfl
  obtain ⟨v8, W8, hrun, hY8⟩ := (arr_nil (e := 3) (sz := 1) (hS6.pull2.alloc (.cells #[.int .i64 1] 3))).append (m := 1) (news := [.int .i64 1]) (t := 208) (ty := 208) (P := Tryz.prog) (x := .slice (some ⟨W4.heap.size, 0, none⟩) 1 1) Tryz.underlying208 (by kernel_rfl : (Tryz.prog.info? 3).map (fun i => (i.zero, i.size, i.bytes)) = some (some (.int .i64 0), 1, 8)) rfl (by decide) (reads_new (cs := [.int .i64 1])) rfl (by intro u hu; simp at hu; rw [hu]; rfl) (by decide) (by decide)
  obtain ⟨A, c9, rfl⟩ := hY8.arr_form
  obtain ⟨Z8, hst8, hZ8⟩ := one_storeS (o := 0) (ty := 208) (u := .slice A 1 c9) hY8.pull3 (by kernel_rfl) (by simp) rfl rfl
  go_wp2_with (at_builtin; refine wpList_append_run rfl _ _ _ rfl rfl rfl hrun (stop_ ?_))
  unfold Stop
  clear hrun e1
  go_wp2_with (refine wpList_store_run (t := 208) rfl rfl rfl rfl hst8 (stop_ ?_))
  unfold Stop
  clear hst8
  have hfin := hZ8.drop.drop.drop.drop.drop.drop.drop.drop
  clear hZ8 hY8 hS6
  go_wp2_with fail
  go_end0
  exact ⟨rfl, hfin⟩
end Go.Proofs.YtdcekoocnoackaaGreatDoor
