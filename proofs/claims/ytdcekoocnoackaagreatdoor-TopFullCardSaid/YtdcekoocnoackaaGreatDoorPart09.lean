import Derived.Test.YtdcekoocnoackaaGreatDoorPart08

/-! The pile's Push and Pop. -/
namespace Go.Proofs.YtdcekoocnoackaaGreatDoor
open Go Go.RowKit

theorem entry_zero : (Tryz.prog.info? 332).map (fun i => (i.zero, i.size, i.bytes)) = some (some (.agg (Ent.enc ⟨0, 0⟩).toArray), 2, 16) := by kernel_rfl
theorem entry_zero2 : (Tryz.prog.info? 332).map (fun i => (i.zero, i.size)) = some (some (.agg (Ent.enc ⟨0, 0⟩).toArray), 2) := by kernel_rfl
theorem entry_zero1 : (Tryz.prog.info? 332).map (·.zero) = some (some (.agg (Ent.enc ⟨0, 0⟩).toArray)) := by kernel_rfl
theorem ent_store (x : Ent) (W : World) (z : Array Value) (hz : z.size = 2) : (Instr.storeAt 332 (.pointer (some ⟨W.heap.size, 0, none⟩)) (.agg x.enc.toArray)).run Tryz.prog (W.alloc (.cells z 332)) = .ok () (W.alloc (.cells x.enc.toArray 332)) :=
  run_storeAt_new (v := .agg x.enc.toArray) (by simp only [Value.cells, List.size_toArray, x.enc_length]; kernel_rfl) (by simp only [Value.cells, List.size_toArray, x.enc_length]; exact hz) (by simpa [Value.cells] using x.enc_one)
theorem assert_entry (v : Value) (w : World) : (Instr.typeAssert (.iface 332 v) 20 332 true).run Tryz.prog w = .ok (.tuple #[v, .bool true]) w := by kernel_rfl
section
variable {B : Nat} {w0 w w' : World} {F : HP} {p : Nat} {L : List Ent}
set_option maxRecDepth 8000 in
set_option maxHeartbeats 2000000 in
theorem pilePush_any (h : Sat B w0 w (pile p L • F)) (x : Ent) (hl : L.length ≤ 4096) (hn : ∀ i, i < L.length → (Hp.g L i).id ≠ x.id) : Calls Tryz.prog 419 #[.pointer (some ⟨p, 0, none⟩), .iface 332 (.agg x.enc.toArray)] w fun e w' =>
    e = .returned (.tuple #[]) ∧ Sat B w0 w' (pile p (L ++ [x]) • F) := by
  obtain ⟨v, mb, f, hx, hS⟩ := h.pile_open
  have hfx : f x.id = none := by
    cases hf : f x.id with
    | none => rfl
    | some n => obtain ⟨i, _, hi, e⟩ := (hx _ _).1 hf; exact absurd e (hn i hi)
  obtain ⟨A, c, rfl⟩ := hS.pull2.arr_form
  have HX := Lib.hid (hx.push hfx)
  clear h hfx hn hx
  have hx0 : (Hp.g [x] 0).id = x.id := rfl
  have hst := ent_store x
  have hta := assert_entry
  have hS0 := (hS.alloc (.cells x.enc.toArray 332)).drew
  clear hS hx0
  go_enter Tryz.func419, Tryz.ntmps419
  go_wp2_with (refine wpList_store_run rfl rfl rfl rfl (hst _ _ rfl) ?_)
  try go_frame
  refine wp_region_ord [(0, .pure), (1, .pure), (2, .pure), (3, .quiet), (4, .pure), (5, .quiet), (6, .pure), (7, .pure), (8, .pure), (9, .quiet), (10, .pure), (11, .seals)] (by kernel_rfl) (by kernel_rfl)
    (fun w' => Sat B w0 w' (blk w.heap.size (.cells x.enc.toArray 332) • blk p (.cells #[.slice A L.length c, .map (some mb)] 198) • arr 332 2 (.slice A L.length c) L.length (L.flatMap Ent.enc) • mp mb f • F)) hS0 ?_
  iterate 3 (refine ord_pure rfl rfl rfl (fun K' hK => ?_); go_big_quiet_op; refine hK _ ?_; clear hK K')
  refine ord_load (t := 195) rfl rfl rfl (p := .pointer (some ⟨p, 1, none⟩)) (v := .map (some mb)) rfl (fun w' hC => run_loadAt_one hC.pull2.heap Tryz.underlying195 rfl rfl) (fun K' hK => ?_)
  go_simp
  refine hK _ ?_
  clear hK K'
  iterate 1 (refine ord_pure rfl rfl rfl (fun K' hK => ?_); go_big_quiet_op; refine hK _ ?_; clear hK K')
  refine ord_load (t := 3) rfl rfl rfl (p := .pointer (some ⟨w.heap.size, 0, none⟩)) (v := .int .i64 x.id) rfl (fun w' hC => run_loadAt_one hC.heap Tryz.underlying3 rfl rfl) (fun K' hK => ?_)
  go_simp
  refine hK _ ?_
  clear hK K'
  iterate 3 (refine ord_pure rfl rfl rfl (fun K' hK => ?_); go_big_quiet_op; refine hK _ ?_; clear hK K')
  refine ord_load (t := 196) rfl rfl rfl (p := .pointer (some ⟨p, 0, none⟩)) (v := .slice A L.length c) rfl (fun w' hC => run_loadAt_one hC.pull2.heap Tryz.underlying196 rfl rfl) (fun K' hK => ?_)
  go_simp
  refine hK _ ?_
  clear hK K'
  iterate 1 (refine ord_pure rfl rfl rfl (fun K' hK => ?_); go_big_quiet_op; refine hK _ ?_; clear hK K')
  obtain ⟨w2, r2, hS2⟩ := Sat.run_mapUpdate (P := Tryz.prog) (mt := 195) (k := x.id) (v := (L.length : Int)) hS0.pull4 Tryz.underlying195 Tryz.underlying3
  refine ord_seals rfl rfl (fun K' hK => wp_mapUpdate_run rfl rfl rfl rfl r2 (hK (fun _ => True) _ _ trivial ?_))
  clear hK K'
  go_simp
  refine ord_nil ?_
  clear hS0 r2
  generalize hf' : upd f x.id (some (L.length : Int)) = f' at *
  have hS3 := hS2.drew
  clear hS2
  go_wp2_with fail
  try go_frame
  refine wp_region_ord [(0, .pure), (1, .pure), (2, .pure), (3, .pure), (4, .quiet), (5, .quiet), (6, .acts), (7, .seals), (8, .pure), (9, .pure), (10, .seals)] (by kernel_rfl) (by kernel_rfl)
    (fun w' => Sat B w0 w' (mp mb f' • blk w.heap.size (.cells x.enc.toArray 332) • blk p (.cells #[.slice A L.length c, .map (some mb)] 198) • arr 332 2 (.slice A L.length c) L.length (L.flatMap Ent.enc) • F)) hS3 ?_
  iterate 4 (refine ord_pure rfl rfl rfl (fun K' hK => ?_); go_big_quiet_op; refine hK _ ?_; clear hK K')
  refine ord_load (t := 196) rfl rfl rfl (p := .pointer (some ⟨p, 0, none⟩)) (v := .slice A L.length c) rfl (fun w' hC => run_loadAt_one hC.pull3.heap Tryz.underlying196 rfl rfl) (fun K' hK => ?_)
  go_simp
  refine hK _ ?_
  clear hK K'
  refine ord_load (t := 332) rfl rfl rfl (p := .pointer (some ⟨w.heap.size, 0, none⟩)) (v := .agg x.enc.toArray) rfl (fun w' hC => run_loadAt_row hC.pull2.heap Tryz.underlying332 rfl (by rw [Ent.enc_length]; kernel_rfl) (fun j u hu => by simpa using hu)) (fun K' hK => ?_)
  go_simp
  refine hK _ ?_
  clear hK K'
  have hS4 := hS3.alloc_ (.cells x.enc.toArray 332)
  refine ord_acts rfl rfl (fun K' hK => ?_)
  refine wp_buildSlice_one (v := .agg x.enc.toArray) rfl rfl Tryz.underlying196 entry_zero2 (by simp [Value.cells, Ent.enc_length]) (by decide) (by decide) ?_
  refine hK _ _ hS4 ?_
  clear hK K'
  go_simp
  obtain ⟨v5, w5, hrun, hS5⟩ := hS4.pull4.append (m := 1) (news := x.enc) (t := 196) (ty := 196) (P := Tryz.prog) (x := .slice (some ⟨w2.drew.heap.size, 0, none⟩) 1 1) Tryz.underlying196 entry_zero (by simp [Value.cells, Ent.enc_length]) (by decide) reads_new (by rw [Ent.enc_length]) (Ent.enc_one _) (by unfold maxLen; omega) (by omega)
  refine ord_seals rfl rfl (fun K' hK => wp_append_run _ _ _ rfl rfl rfl hrun (hK (fun _ => True) _ _ trivial ?_))
  clear hK K'
  go_simp
  iterate 2 (refine ord_pure rfl rfl rfl (fun K' hK => ?_); go_big_quiet_op; refine hK _ ?_; clear hK K')
  obtain ⟨A5, c5, rfl⟩ := hS5.arr_form
  have hS6 := hS5.pull4.setRow (cs := #[.slice A5 (L.length + 1) c5, .map (some mb)])
  have hs6 := run_storeAt_row (P := Tryz.prog) (o := 0) (ty := 196) (v := .slice A5 (L.length + 1) c5) hS5.pull4.heap (by kernel_rfl) (by simp [Value.cells]) (by simp [Value.cells, Value.oneCell'])
  rw [show splice #[.slice A L.length c, .map (some mb)] 0 (Value.slice A5 (L.length + 1) c5).cells.toList = #[.slice A5 (L.length + 1) c5, .map (some mb)] from rfl] at hs6
  refine ord_store rfl rfl rfl rfl (p := .pointer (some ⟨p, 0, none⟩)) (v := .slice A5 (L.length + 1) c5) rfl rfl hs6 (fun _ => True) trivial ?_
  refine ord_nil ?_
  go_end0
  refine ⟨rfl, Sat.pile_shut (v := .slice A5 (L.length + 1) c5) (mb := mb) HX.out ?_⟩
  rw [List.length_append, List.length_singleton, List.flatMap_append, List.flatMap_singleton]
  have hS7 := hS6.to (show _ = blk w.heap.size (.cells x.enc.toArray 332) • blk p (.cells #[.slice A5 (L.length + 1) c5, .map (some mb)] 198) • arr 332 2 (.slice A5 (L.length + 1) c5) (L.length + 1) (L.flatMap Ent.enc ++ x.enc) • mp mb f' • F by ac_rfl)
  exact hS7.drop
set_option maxRecDepth 8000 in
set_option maxHeartbeats 2000000 in
theorem pilePop_any (h : Sat B w0 w (pile p L • F)) {m : Nat} (hm : L.length = m + 1) : Calls Tryz.prog 418 #[.pointer (some ⟨p, 0, none⟩)] w fun e w' =>
    e = .returned (.iface 332 (.agg (Hp.g L m).enc.toArray)) ∧ Sat B w0 w' (pile p L.dropLast • F) := by
  obtain ⟨g, cap, cur, mb, f, hx, h1, h2, h3, h4, hS⟩ := h.pile_row (by omega)
  have hx2 := hx.pop (by omega)
  rw [hm, Nat.add_sub_cancel] at hx2
  have h4' : cur.toList.take (m * 2) = L.dropLast.flatMap Ent.enc := by
    have e1 : cur.toList.take (m * 2) = (cur.toList.take (L.length * 2)).take (m * 2) := by rw [List.take_take, Nat.min_eq_left (by omega)]
    rw [e1, h4]
    conv => lhs; rw [← List.dropLast_concat_getLast (l := L) (by intro e; simp [e] at hm), List.flatMap_append]
    rw [List.take_append_of_le_length (by rw [flat_length Ent.enc_length, List.length_dropLast]; omega)]
    exact List.take_of_length_le (by rw [flat_length Ent.enc_length, List.length_dropLast]; omega)
  have hld : L.dropLast.length = m := by rw [List.length_dropLast]; omega
  have hmx : (m : Int) + 1 ≤ 9223372036854775807 := by unfold maxLen at h2; omega
  have hml : m < L.length := by omega
  have hmc : m + 1 ≤ cap := by omega
  have hmc2 : m ≤ cap := by omega
  have hS0 := hS.drew
  rw [hm] at hS0
  have HX2 := Lib.hid hx2
  have HLD := Lib.hid hld
  have H4 := Lib.hid h4
  have H4' := Lib.hid h4'
  have HML := Lib.hid hml
  have H3 := Lib.hid h3
  have hst := ent_store (Hp.g L m)
  clear h hS hx2 hld h4 h4' hm hx hml h3 h1
  generalize hXM : Hp.g L m = X at *
  have HXM := Lib.hid hXM
  clear hXM
  go_enter Tryz.func418, Tryz.ntmps418
  go_wp2_with fail
  refine wp_region_ord [(0, .pure), (1, .pure), (2, .pure), (3, .quiet), (4, .pure), (5, .pure), (6, .pure), (7, .quiet), (8, .pure), (9, .pure), (10, .pure), (11, .quiet), (12, .acts), (13, .seals)] (by kernel_rfl) (by kernel_rfl)
    (fun w' => Sat B w0 w' (blk p (.cells #[.slice (some ⟨g, 0, none⟩) (m + 1) cap, .map (some mb)] 198) • blk g (.cells cur 332 (0, 0)) • mp mb f • F)) hS0 ?_
  iterate 3 (refine ord_pure rfl rfl rfl (fun K' hK => ?_); go_big_quiet_op; refine hK _ ?_; clear hK K')
  refine ord_load (t := 196) rfl rfl rfl (p := .pointer (some ⟨p, 0, none⟩)) (v := .slice (some ⟨g, 0, none⟩) (m + 1) cap) rfl (fun w' hC => run_loadAt_one hC.heap Tryz.underlying196 rfl rfl) (fun K' hK => ?_)
  go_simp
  refine hK _ ?_
  clear hK K'
  iterate 3 (refine ord_pure rfl rfl rfl (fun K' hK => ?_); go_big_quiet_op; refine hK _ ?_; clear hK K')
  refine ord_load (t := 196) rfl rfl rfl (p := .pointer (some ⟨p, 0, none⟩)) (v := .slice (some ⟨g, 0, none⟩) (m + 1) cap) rfl (fun w' hC => run_loadAt_one hC.heap Tryz.underlying196 rfl rfl) (fun K' hK => ?_)
  go_simp
  refine hK _ ?_
  clear hK K'
  iterate 3 (refine ord_pure rfl rfl rfl (fun K' hK => ?_); go_big_quiet_op; refine hK _ ?_; clear hK K')
  refine ord_load (t := 332) rfl rfl rfl (p := .pointer (some ⟨g, m * 2, none⟩)) (v := .agg X.enc.toArray) rfl (fun w' hC => by rw [← HXM.out]; exact ent_load hC.pull2.heap H4.out HML.out) (fun K' hK => ?_)
  go_simp
  refine hK _ ?_
  clear hK K'
  have hS1 := hS0.alloc (.cells X.enc.toArray 332)
  refine ord_acts rfl rfl (fun K' hK => wp_alloc_run rfl entry_zero1 (hK _ _ (hS0.alloc_ _) ?_))
  clear hK K'
  go_simp
  refine ord_store rfl rfl rfl rfl (p := .pointer (some ⟨w.drew.heap.size, 0, none⟩)) (v := .agg X.enc.toArray) rfl rfl (hst _ _ rfl) (fun _ => True) trivial ?_
  refine ord_nil ?_
  clear hS0 hst
  have hS2 := hS1.drew
  clear hS1
  go_wp2_with fail
  try go_frame
  refine wp_region_ord [(0, .pure), (1, .pure), (2, .pure), (3, .pure), (4, .quiet), (5, .pure), (6, .pure), (7, .pure), (8, .quiet), (9, .pure), (10, .pure), (11, .pure), (12, .pure), (13, .pure), (14, .seals)] (by kernel_rfl) (by kernel_rfl)
    (fun w' => Sat B w0 w' (blk w.drew.heap.size (.cells X.enc.toArray 332) • blk p (.cells #[.slice (some ⟨g, 0, none⟩) (m + 1) cap, .map (some mb)] 198) • blk g (.cells cur 332 (0, 0)) • mp mb f • F)) hS2 ?_
  iterate 4 (refine ord_pure rfl rfl rfl (fun K' hK => ?_); go_big_quiet_op; refine hK _ ?_; clear hK K')
  refine ord_load (t := 196) rfl rfl rfl (p := .pointer (some ⟨p, 0, none⟩)) (v := .slice (some ⟨g, 0, none⟩) (m + 1) cap) rfl (fun w' hC => run_loadAt_one hC.pull2.heap Tryz.underlying196 rfl rfl) (fun K' hK => ?_)
  go_simp
  refine hK _ ?_
  clear hK K'
  iterate 3 (refine ord_pure rfl rfl rfl (fun K' hK => ?_); go_big_quiet_op; refine hK _ ?_; clear hK K')
  refine ord_load (t := 196) rfl rfl rfl (p := .pointer (some ⟨p, 0, none⟩)) (v := .slice (some ⟨g, 0, none⟩) (m + 1) cap) rfl (fun w' hC => run_loadAt_one hC.pull2.heap Tryz.underlying196 rfl rfl) (fun K' hK => ?_)
  go_simp
  refine hK _ ?_
  clear hK K'
  iterate 5 (refine ord_pure rfl rfl rfl (fun K' hK => ?_); go_big_quiet_op; refine hK _ ?_; clear hK K')
  have hS3 := (hS2.pull2.setRow (cs := #[.slice (some ⟨g, 0, none⟩) m cap, .map (some mb)])).pull2
  have hs3 := run_storeAt_row (P := Tryz.prog) (o := 0) (ty := 196) (v := .slice (some ⟨g, 0, none⟩) m cap) hS2.pull2.heap (by kernel_rfl) (by simp [Value.cells]) (by simp [Value.cells, Value.oneCell'])
  rw [show splice #[.slice (some ⟨g, 0, none⟩) (m + 1) cap, .map (some mb)] 0 (Value.slice (some ⟨g, 0, none⟩) m cap).cells.toList = #[.slice (some ⟨g, 0, none⟩) m cap, .map (some mb)] from rfl] at hs3
  refine ord_store rfl rfl rfl rfl (p := .pointer (some ⟨p, 0, none⟩)) (v := .slice (some ⟨g, 0, none⟩) m cap) rfl rfl hs3 (fun _ => True) trivial ?_
  refine ord_nil ?_
  clear hS2 hs3
  have hS4 := hS3.drew
  clear hS3
  go_wp2_with fail
  try go_frame
  refine wp_region_ord [(0, .pure), (1, .pure), (2, .pure), (3, .quiet), (4, .pure), (5, .quiet), (6, .seals)] (by kernel_rfl) (by kernel_rfl)
    (fun w' => Sat B w0 w' (blk w.drew.heap.size (.cells X.enc.toArray 332) • blk p (.cells #[.slice (some ⟨g, 0, none⟩) (m) cap, .map (some mb)] 198) • blk g (.cells cur 332 (0, 0)) • mp mb f • F)) hS4 ?_
  iterate 3 (refine ord_pure rfl rfl rfl (fun K' hK => ?_); go_big_quiet_op; refine hK _ ?_; clear hK K')
  refine ord_load (t := 195) rfl rfl rfl (p := .pointer (some ⟨p, 1, none⟩)) (v := .map (some mb)) rfl (fun w' hC => run_loadAt_one hC.pull2.heap Tryz.underlying195 rfl rfl) (fun K' hK => ?_)
  go_simp
  refine hK _ ?_
  clear hK K'
  iterate 1 (refine ord_pure rfl rfl rfl (fun K' hK => ?_); go_big_quiet_op; refine hK _ ?_; clear hK K')
  refine ord_load (t := 3) rfl rfl rfl (p := .pointer (some ⟨w.drew.heap.size, 0, none⟩)) (v := .int .i64 X.id) rfl (fun w' hC => run_loadAt_one hC.heap Tryz.underlying3 rfl rfl) (fun K' hK => ?_)
  go_simp
  refine hK _ ?_
  clear hK K'
  obtain ⟨w2, r2, hS5⟩ := Sat.run_delete (P := Tryz.prog) (mt := 195) (ty := 0) (k := X.id) hS4.pull4 Tryz.underlying195 Tryz.underlying3
  refine ord_seals rfl rfl (fun K' hK => wp_delete_run rfl rfl rfl r2 (hK (fun _ => True) _ _ trivial ?_))
  clear hK K'
  go_simp
  refine ord_nil ?_
  clear hS4 r2
  have hl5 : (Instr.loadAt 332 (.pointer (some ⟨w.drew.heap.size, 0, none⟩))).run Tryz.prog w2 = .ok (.agg X.enc.toArray) w2 :=
    run_loadAt_row hS5.pull2.heap Tryz.underlying332 rfl (by rw [Ent.enc_length]; kernel_rfl) (fun j u hu => by simpa using hu)
  go_wp2_with (refine wpList_load_run (t := 332) rfl rfl rfl hl5 ?_)
  go_ret

  refine ⟨rfl, Sat.pile_row_shut (g := g) (mb := mb) (cap := cap) (cur := cur) HX2.out (by rw [HLD.out]; exact hmc2) h2 H3.out (by rw [HLD.out]; exact H4'.out) ?_⟩
  rw [HLD.out]
  have hS7 := hS5.to (show _ = blk w.drew.heap.size (.cells X.enc.toArray 332) • blk p (.cells #[.slice (some ⟨g, 0, none⟩) m cap, .map (some mb)] 198) • blk g (.cells cur 332 (0, 0)) • mp mb (upd f X.id none) • F by ac_rfl)
  exact hS7.drop
end
end Go.Proofs.YtdcekoocnoackaaGreatDoor

/-! container/heap over the pile: up. -/
namespace Go.Proofs.YtdcekoocnoackaaGreatDoor
open Go Go.RowKit

theorem m_Len (a : Addr) (w : World) : (method 664 194 (.pointer (some a)) "Len").run Tryz.prog w = .ok (302, .pointer (some a)) w := by kernel_rfl
theorem m_Less (a : Addr) (w : World) : (method 664 194 (.pointer (some a)) "Less").run Tryz.prog w = .ok (417, .pointer (some a)) w := by kernel_rfl
theorem m_Swap (a : Addr) (w : World) : (method 664 194 (.pointer (some a)) "Swap").run Tryz.prog w = .ok (420, .pointer (some a)) w := by kernel_rfl
theorem m_Push (a : Addr) (w : World) : (method 664 194 (.pointer (some a)) "Push").run Tryz.prog w = .ok (419, .pointer (some a)) w := by kernel_rfl
theorem m_Pop (a : Addr) (w : World) : (method 664 194 (.pointer (some a)) "Pop").run Tryz.prog w = .ok (418, .pointer (some a)) w := by kernel_rfl

theorem up_fuel : ∀ (f g : Nat) (l : List Ent) (j : Nat), j ≤ f → j ≤ g → Hp.up f l j = Hp.up g l j := by
  intro f
  induction f with
  | zero =>
    intro g l j hf hg
    obtain rfl : j = 0 := by omega
    cases g <;> simp [Hp.up]
  | succ f ih =>
    intro g l j hf hg
    cases g with
    | zero =>
      obtain rfl : j = 0 := by omega
      simp [Hp.up]
    | succ g =>
      simp only [Hp.up]
      by_cases h0 : j = 0
      · rw [if_pos h0, if_pos h0]
      · rw [if_neg h0, if_neg h0, ih g _ _ (by unfold Hp.par; omega) (by unfold Hp.par; omega)]
/-- One more round of up. -/
theorem up_zero {f : Nat} {l : List Ent} : Hp.up f l 0 = l := by cases f <;> simp [Hp.up]
theorem up_stay {f : Nat} {l : List Ent} {m : Nat} (h : (Hp.g l (m + 1)).lt (Hp.g l (m / 2)) = false) : Hp.up f l (m + 1) = l := by
  cases f with
  | zero => rfl
  | succ f =>
    rw [Hp.up, if_neg (by omega)]
    have : Hp.par (m + 1) = m / 2 := rfl
    rw [this, h]; rfl
theorem up_go {l : List Ent} {m : Nat} (h : (Hp.g l (m + 1)).lt (Hp.g l (m / 2)) = true) (f : Nat) : Hp.up (f + 1) l (m + 1) = Hp.up f (Hp.swap l (m / 2) (m + 1)) (m / 2) := by
  rw [Hp.up, if_neg (by omega)]
  have : Hp.par (m + 1) = m / 2 := rfl
  rw [this, if_pos h]

section
variable {B : Nat} {w0 w w' : World} {F : HP} {p : Nat} {L : List Ent}
theorem Sat.pile_max (h : Sat B w0 w (pile p L • F)) : L.length ≤ 9223372036854775807 := by
  by_cases hl : 0 < L.length
  · obtain ⟨g, cap, cur, mb, f, hx, h1, h2, _⟩ := h.pile_row hl
    unfold maxLen at h2; omega
  · omega
set_option maxRecDepth 8000 in
set_option maxHeartbeats 2000000 in
theorem up_any (h : Sat B w0 w (pile p L • F)) {j : Nat} (hj : j < L.length) (f0 : Nat) (hf0 : j ≤ f0) : Calls Tryz.prog 282 #[.iface 194 (.pointer (some ⟨p, 0, none⟩)), .int .i64 j] w fun e w' =>
    e = .returned (.tuple #[]) ∧ Sat B w0 w' (pile p (Hp.up f0 L j) • F) := by
  have hR : ∀ f, j ≤ f → Hp.up f L j = Hp.up f0 L j := fun f hf => up_fuel f f0 L j hf hf0
  generalize Hp.up f0 L j = R at *
  have HR := Lib.hid hR
  have hmx := h.pile_max
  generalize hn : L.length = n at *
  have HN := Lib.hid hn
  clear hR hn hf0
  have mL := m_Less
  have mS := m_Swap
  go_enter Tryz.func282, Tryz.ntmps282
  go_wp2_with fail
  go_loopw [1] (fun t wr => ∃ (k : Nat) (M : List Ent), k < n ∧ t = .int .i64 k ∧ Sat B w0 wr (pile p M • F) ∧ Hid (M.length = n ∧ ∀ f, k ≤ f → Hp.up f M k = R)) (fun t _ => (intOf t).toNat)
  case atStart => exact ⟨j, L, hj, rfl, h, Lib.hid ⟨HN.out, HR.out⟩⟩
  case round =>
    clear h HR HN hj
    obtain ⟨k, M, hk, rfl, hS, HK⟩ := hrel
    rcases k with _ | m
    · go_wp2_with fail
      go_end0
      refine ⟨rfl, ?_⟩
      rw [← HK.out.2 0 (Nat.le_refl _), up_zero]
      exact hS
    · have hl1 : m + 1 < M.length := by have := HK.out.1; omega
      have hl2 : m / 2 < M.length := by have := HK.out.1; omega
      have c1 := pileLess_any hS hl1 hl2
      rw [show ((m + 1 : Nat) : Int) = (m : Int) + 1 by omega, show ((m / 2 : Nat) : Int) = (m : Int) / 2 by omega] at c1
      cases hlt : (Hp.g M (m + 1)).lt (Hp.g M (m / 2))
      · rw [hlt] at c1
        have HU := Lib.hid (fun f => up_stay (f := f) hlt)
        clear hlt hl1 hl2
        go_wp2_with fail
        refine c1.mono ?_
        rintro e w2 ⟨rfl, hb⟩
        have hS2 := hS.below_ hb
        clear hS hb c1
        go_wp2_with fail
        go_end0
        refine ⟨rfl, ?_⟩
        rw [← HK.out.2 _ (Nat.le_refl _), HU.out]
        exact hS2
      · rw [hlt] at c1
        have HU := Lib.hid (up_go hlt)
        have HL1 := Lib.hid hl1
        have HL2 := Lib.hid hl2
        clear hlt hl1 hl2
        go_wp2_with fail
        refine c1.mono ?_
        rintro e w2 ⟨rfl, hb⟩
        have c2 := pileSwap_any (hS.below_ hb) HL2.out HL1.out
        rw [show ((m + 1 : Nat) : Int) = (m : Int) + 1 by omega, show ((m / 2 : Nat) : Int) = (m : Int) / 2 by omega] at c2
        clear hS hb c1
        go_wp2_with fail
        refine c2.mono ?_
        rintro e w3 ⟨rfl, hS3⟩
        clear c2
        go_wp2_with fail
        go_roundw
        case rel =>
          refine ⟨m / 2, Hp.swap M (m / 2) (m + 1), by omega, by rw [show ((m / 2 : Nat) : Int) = (m : Int) / 2 by omega], hS3, Lib.hid ⟨by rw [Hp.swap_length]; exact HK.out.1, fun f hf => ?_⟩⟩
          rw [up_fuel f (f + m + 1) _ _ hf (by omega), ← HU.out]
          exact HK.out.2 _ (by omega)
        case measure => simp [intOf]; omega
end
end Go.Proofs.YtdcekoocnoackaaGreatDoor
