import Derived.Test.YtdcekoocnoackaaGreatDoorPart07

/-! The pile's Swap. -/
namespace Go.Proofs.YtdcekoocnoackaaGreatDoor
open Go Go.RowKit

section
variable {P : Program} {w w' : World} {o : Oper} {a : Act} {K : Act → World → Prop} {Q : Exit → Act → World → Prop}
theorem wp_mapEntry_run {t : TypeId} {x y : Operand} (ho : o.op = .mapEntry t x y) {m k v : Value} (hx : a.eval x = m) (hy : a.eval y = k) (hr : (Instr.mapEntry t m k).run P w = .ok v w') (h : K (a.put o.dst v) w') : o.wp P a w K Q := by
  unfold Oper.wp execOp
  simp only [ho, hx, hy, Sem.run_bind, hr, Result.andThen_ok, Sem.run_pure, Oper.upon]
  exact h
theorem wp_entryStore_run {t : TypeId} {x y z : Operand} (ho : o.op = .entryStore t x y z) {m k v : Value} (hx : a.eval x = m) (hy : a.eval y = k) (hz : a.eval z = v) (hr : (Instr.entryStore t m k v).run P w = .ok () w') (h : K (a.put o.dst undef) w') : o.wp P a w K Q := by
  unfold Oper.wp execOp
  simp only [ho, hx, hy, hz, Sem.run_bind, hr, Result.andThen_ok, Sem.run_pure, Oper.upon]
  exact h
theorem wp_mapUpdate_run {t : TypeId} {x y z : Operand} (ho : o.op = .mapUpdate t x y z) {m k v : Value} (hx : a.eval x = m) (hy : a.eval y = k) (hz : a.eval z = v) (hr : (Instr.mapUpdate t m k v).run P w = .ok () w') (h : K (a.put o.dst undef) w') : o.wp P a w K Q := by
  unfold Oper.wp execOp
  simp only [ho, hx, hy, hz, Sem.run_bind, hr, Result.andThen_ok, Sem.run_pure, Oper.upon]
  exact h
theorem wp_lookup_run {t : TypeId} {x y : Operand} {c : Bool} (ho : o.op = .lookup t x y c) {m k v : Value} (hx : a.eval x = m) (hy : a.eval y = k) (hr : (Instr.lookup t m k c).run P w = .ok v w) (h : K (a.put o.dst v) w) : o.wp P a w K Q := by
  unfold Oper.wp execOp
  simp only [ho, hx, hy, Sem.run_bind, hr, Result.andThen_ok, Sem.run_pure, Oper.upon]
  exact h
theorem wpList_lookup_run {ops : Array Oper} {rest : List Oper} (hgd : o.guard = none) {t : TypeId} {x y : Operand} {c : Bool} (ho : o.op = .lookup t x y c) {m k v : Value} (hx : a.eval x = m) (hy : a.eval y = k) (hr : (Instr.lookup t m k c).run P w = .ok v w) (h : wpList P ops Q rest (a.put o.dst v) w) : wpList P ops Q (o :: rest) a w :=
  wpList_plain hgd fun _ hK => wp_lookup_run ho hx hy hr (hK _ _ h)
theorem wp_delete_run {x y : Operand} {t t' : TypeId} (ho : o.op = .call { callee := .builtin .delete, args := #[x, y], argTypes := #[t, t'] }) {m k v : Value} (hx : a.eval x = m) (hy : a.eval y = k) (hr : (Builtin.delete_ #[t, t'] o.type #[m, k]).run P w = .ok v w') (h : K (a.put o.dst v) w') : o.wp P a w K Q := by
  unfold Oper.wp execOp
  simp only [ho, resolve, invoke, builtin, Sem.run_bind, Sem.run_pure, Result.andThen_ok, List.map_toArray, List.map_cons, List.map_nil, hx, hy, hr]
  exact h
theorem wp_alloc_run {t : TypeId} (ho : o.op = .alloc t) {z : Value} (hi : (P.info? t).map (·.zero) = some (some z)) (h : K (a.put o.dst (.pointer (some ⟨w.heap.size, 0, none⟩))) (w.alloc (.cells z.cells t))) : o.wp P a w K Q := by
  cases hq : P.info? t with
  | none => simp [hq] at hi
  | some i =>
    have hz : i.zero = some z := by simpa [hq] using hi
    have hzv : (zeroValue t).run P w = .ok z w := by simp [zeroValue, typeInfo, hq, hz]
    unfold Oper.wp execOp
    simp only [ho, Sem.run_bind, Instr.alloc, hzv, Result.andThen_ok]
    simp [newVar, Oper.upon]
    exact h
variable {B : Nat} {w0 : World} {F : HP} {b : Nat} {f : Int → Option Int} {k : Int} {mt kt et : TypeId}
theorem Sat.run_entry (h : Sat B w0 w (mp b f • F)) (hm : P.underlying mt = some (.map kt et)) (hk : P.underlying kt = some (.int .i64)) {v0 : Int} (hf : f k = some v0) (v : Int) :
    ∃ (w1 w2 : World) (st : Int), (Instr.mapEntry mt (.map (some b)) (.int .i64 k)).run P w = .ok (.tuple #[.int .i64 v0, .int .i64 st]) w1 ∧
      (Instr.entryStore mt (.map (some b)) (.int .i64 st) (.int .i64 v)).run P w1 = .ok () w2 ∧ Sat B w0 w2 (mp b (upd f k (some v)) • F) := by
  obtain ⟨w1, st, hr, hS, hnext⟩ := h.run_mapEntry hm hk hf
  obtain ⟨es, clk, hs, he, hb⟩ := hS.mp_open
  obtain ⟨w2, hr2, hS2⟩ := hnext w1 B w0 F v (by rw [hb.heap]; exact hb)
  exact ⟨w1, w2, st, hr, hr2, hS2⟩
end

section
variable {B : Nat} {w0 w w' : World} {F : HP} {p : Nat} {L : List Ent}
set_option maxRecDepth 8000 in
set_option maxHeartbeats 2000000 in
theorem pileSwap_any (h : Sat B w0 w (pile p L • F)) {i k : Nat} (hi : i < L.length) (hk : k < L.length) : Calls Tryz.prog 420 #[.pointer (some ⟨p, 0, none⟩), .int .i64 i, .int .i64 k] w fun e w' =>
    e = .returned (.tuple #[]) ∧ Sat B w0 w' (pile p (Hp.swap L i k) • F) := by
  obtain ⟨g, cap, cur, mb, f, hx, h1, h2, h3, h4, hS⟩ := h.pile_row (by omega)
  have hmx : L.length ≤ 9223372036854775807 := by unfold maxLen at h2; omega
  have hS' := hS.drew
  clear hS h
  have hsw : Hp.swap L i k = (L.set i (Hp.g L k)).set k (Hp.g L i) := rfl
  have hk' : k < (L.set i (Hp.g L k)).length := by simpa using hk
  have t1 := take_splice_set (L := L) (cur := cur) Ent.enc_length (by decide) h4 rfl (by omega) hi (Hp.g L k)
  have z1 : (splice cur (i * 2) (Hp.g L k).enc).size = cur.size := splice_size (by rw [Ent.enc_length]; omega)
  have t2 := take_splice_set (L := L.set i (Hp.g L k)) (n := L.length) (cur := splice cur (i * 2) (Hp.g L k).enc) Ent.enc_length (by decide) t1 (by simp) (by rw [z1]; omega) hk (Hp.g L i)
  have z2 : (splice (splice cur (i * 2) (Hp.g L k).enc) (k * 2) (Hp.g L i).enc).size = cur.size := by rw [splice_size (by rw [Ent.enc_length, z1]; omega), z1]
  rw [← hsw] at t2
  have hx2 := hx.swap hi hk
  have gi : (Hp.g (Hp.swap L i k) i).id = (Hp.g L k).id := by
    rw [Hp.g_swap _ _ _ _ hi hk]; split
    · rename_i e; rw [← e]
    · rw [if_pos rfl]
  have gk : (Hp.g (Hp.swap L i k) k).id = (Hp.g L i).id := by rw [Hp.g_swap _ _ _ _ hi hk, if_pos rfl]
  have hl2 : (Hp.swap L i k).length = L.length := Hp.swap_length _ _ _
  have f1 := (hx _ _).2 ⟨k, rfl, hk, rfl⟩
  have f2 : upd f (Hp.g L k).id (some (i : Int)) (Hp.g L i).id = some (i : Int) := by
    by_cases e : (Hp.g L i).id = (Hp.g L k).id
    · rw [e, upd_same]
    · rw [upd_other _ _ e]; exact (hx _ _).2 ⟨i, rfl, hi, rfl⟩
  have HX2 := Lib.hid hx2
  have HL2 := Lib.hid hl2
  have GI := Lib.hid gi
  have GK := Lib.hid gk
  have F1 := Lib.hid f1
  have F2 := Lib.hid f2
  have T2 := Lib.hid t2
  have Z1 := Lib.hid z1
  have Z2 := Lib.hid z2
  clear hx2 hl2 gi gk f1 f2 t1 t2 z1 z2 hsw
  go_enter Tryz.func420, Tryz.ntmps420
  go_wp2_with fail
  refine wp_region_ord [(0, .pure), (1, .pure), (2, .pure), (3, .quiet), (4, .pure), (5, .pure), (6, .pure), (7, .pure), (8, .quiet), (9, .pure), (10, .pure), (11, .pure), (12, .pure), (13, .quiet), (14, .pure), (15, .pure), (16, .quiet), (17, .pure), (18, .pure), (19, .pure), (20, .quiet), (21, .pure), (22, .pure), (23, .quiet), (24, .pure), (25, .seals), (26, .pure), (27, .seals)] (by kernel_rfl) (by kernel_rfl)
    (fun w' => Sat B w0 w' (blk p (.cells #[.slice (some ⟨g, 0, none⟩) L.length cap, .map (some mb)] 198) • blk g (.cells cur 332 (0, 0)) • mp mb f • F)) hS' ?_
  iterate 3 (refine ord_pure rfl rfl rfl (fun K' hK => ?_); go_big_quiet_op; refine hK _ ?_; clear hK K')
  refine ord_load (t := 196) rfl rfl rfl (p := .pointer (some ⟨p, 0, none⟩)) (v := .slice (some ⟨g, 0, none⟩) L.length cap) rfl (fun w' hC => run_loadAt_one hC.heap Tryz.underlying196 rfl rfl) (fun K' hK => ?_)
  go_simp
  refine hK _ ?_
  clear hK K'
  iterate 4 (refine ord_pure rfl rfl rfl (fun K' hK => ?_); go_big_quiet_op; refine hK _ ?_; clear hK K')
  refine ord_load (t := 196) rfl rfl rfl (p := .pointer (some ⟨p, 0, none⟩)) (v := .slice (some ⟨g, 0, none⟩) L.length cap) rfl (fun w' hC => run_loadAt_one hC.heap Tryz.underlying196 rfl rfl) (fun K' hK => ?_)
  go_simp
  refine hK _ ?_
  clear hK K'
  iterate 4 (refine ord_pure rfl rfl rfl (fun K' hK => ?_); go_big_quiet_op; refine hK _ ?_; clear hK K')
  refine ord_load (t := 196) rfl rfl rfl (p := .pointer (some ⟨p, 0, none⟩)) (v := .slice (some ⟨g, 0, none⟩) L.length cap) rfl (fun w' hC => run_loadAt_one hC.heap Tryz.underlying196 rfl rfl) (fun K' hK => ?_)
  go_simp
  refine hK _ ?_
  clear hK K'
  iterate 2 (refine ord_pure rfl rfl rfl (fun K' hK => ?_); go_big_quiet_op; refine hK _ ?_; clear hK K')
  refine ord_load (t := 332) rfl rfl rfl (p := .pointer (some ⟨g, k * 2, none⟩)) (v := .agg (Hp.g L k).enc.toArray) rfl (fun w' hC => ent_load hC.pull2.heap h4 hk) (fun K' hK => ?_)
  go_simp
  refine hK _ ?_
  clear hK K'
  iterate 3 (refine ord_pure rfl rfl rfl (fun K' hK => ?_); go_big_quiet_op; refine hK _ ?_; clear hK K')
  refine ord_load (t := 196) rfl rfl rfl (p := .pointer (some ⟨p, 0, none⟩)) (v := .slice (some ⟨g, 0, none⟩) L.length cap) rfl (fun w' hC => run_loadAt_one hC.heap Tryz.underlying196 rfl rfl) (fun K' hK => ?_)
  go_simp
  refine hK _ ?_
  clear hK K'
  iterate 2 (refine ord_pure rfl rfl rfl (fun K' hK => ?_); go_big_quiet_op; refine hK _ ?_; clear hK K')
  refine ord_load (t := 332) rfl rfl rfl (p := .pointer (some ⟨g, i * 2, none⟩)) (v := .agg (Hp.g L i).enc.toArray) rfl (fun w' hC => ent_load hC.pull2.heap h4 hi) (fun K' hK => ?_)
  go_simp
  refine hK _ ?_
  clear hK K'
  iterate 1 (refine ord_pure rfl rfl rfl (fun K' hK => ?_); go_big_quiet_op; refine hK _ ?_; clear hK K')
  have hS2 := (hS'.pull2.setRow (cs := splice cur (i * 2) (Hp.g L k).enc)).pull2
  refine ord_store rfl rfl rfl rfl (p := .pointer (some ⟨g, i * 2, none⟩)) (v := .agg (Hp.g L k).enc.toArray) rfl rfl (run_storeAt_row hS'.pull2.heap (by simp only [Value.cells, List.size_toArray, Ent.enc_length]; kernel_rfl) (by simp only [Value.cells, List.size_toArray, Ent.enc_length]; omega) (by simpa [Value.cells] using Ent.enc_one _)) (fun _ => True) trivial ?_
  simp only [Value.cells]
  iterate 1 (refine ord_pure rfl rfl rfl (fun K' hK => ?_); go_big_quiet_op; refine hK _ ?_; clear hK K')
  have hS3 := (hS2.pull2.setRow (cs := splice (splice cur (i * 2) (Hp.g L k).enc) (k * 2) (Hp.g L i).enc)).pull2
  refine ord_store rfl rfl rfl rfl (p := .pointer (some ⟨g, k * 2, none⟩)) (v := .agg (Hp.g L i).enc.toArray) rfl rfl (run_storeAt_row hS2.pull2.heap (by simp only [Value.cells, List.size_toArray, Ent.enc_length]; kernel_rfl) (by simp only [Value.cells, List.size_toArray, Ent.enc_length]; rw [Z1.out]; omega) (by simpa [Value.cells] using Ent.enc_one _)) (fun _ => True) trivial ?_
  simp only [Value.cells]
  refine ord_nil ?_
  clear hS' hS2
  generalize splice (splice cur (i * 2) (Hp.g L k).enc) (k * 2) (Hp.g L i).enc = cur2 at *
  generalize w.drew.setRow g (splice cur (i * 2) (Hp.g L k).enc) = W1 at *
  generalize W1.setRow g cur2 = W2 at *
  have hS4 := hS3.drew
  clear hS3
  go_wp2_with fail
  refine wp_region_ord [(0, .pure), (1, .pure), (2, .pure), (3, .quiet), (4, .pure), (5, .pure), (6, .pure), (7, .quiet), (8, .pure), (9, .pure), (10, .pure), (11, .quiet), (12, .pure), (13, .pure), (14, .pure), (15, .quiet), (16, .pure), (17, .pure), (18, .pure), (19, .quiet), (20, .pure), (21, .pure), (22, .pure), (23, .quiet), (24, .pure), (25, .pure), (26, .seals), (27, .pure), (28, .seals), (29, .seals), (30, .pure), (31, .seals)] (by kernel_rfl) (by kernel_rfl)
    (fun w' => Sat B w0 w' (blk p (.cells #[.slice (some ⟨g, 0, none⟩) L.length cap, .map (some mb)] 198) • blk g (.cells cur2 332 (0, 0)) • mp mb f • F)) hS4 ?_
  iterate 3 (refine ord_pure rfl rfl rfl (fun K' hK => ?_); go_big_quiet_op; refine hK _ ?_; clear hK K')
  refine ord_load (t := 195) rfl rfl rfl (p := .pointer (some ⟨p, 1, none⟩)) (v := .map (some mb)) rfl (fun w' hC => run_loadAt_one hC.heap Tryz.underlying195 rfl rfl) (fun K' hK => ?_)
  go_simp
  refine hK _ ?_
  clear hK K'
  iterate 3 (refine ord_pure rfl rfl rfl (fun K' hK => ?_); go_big_quiet_op; refine hK _ ?_; clear hK K')
  refine ord_load (t := 196) rfl rfl rfl (p := .pointer (some ⟨p, 0, none⟩)) (v := .slice (some ⟨g, 0, none⟩) L.length cap) rfl (fun w' hC => run_loadAt_one hC.heap Tryz.underlying196 rfl rfl) (fun K' hK => ?_)
  go_simp
  refine hK _ ?_
  clear hK K'
  iterate 3 (refine ord_pure rfl rfl rfl (fun K' hK => ?_); go_big_quiet_op; refine hK _ ?_; clear hK K')
  refine ord_load (t := 3) rfl rfl rfl (p := .pointer (some ⟨g, i * 2, none⟩)) (v := .int .i64 (Hp.g L k).id) rfl (fun w' hC => by rw [← GI.out]; exact run_loadAt_one hC.pull2.heap Tryz.underlying3 rfl (cur_at (L := Hp.swap L i k) Ent.enc_length T2.out (g_get (by rw [HL2.out]; omega)) 0 _ rfl)) (fun K' hK => ?_)
  go_simp
  refine hK _ ?_
  clear hK K'
  iterate 3 (refine ord_pure rfl rfl rfl (fun K' hK => ?_); go_big_quiet_op; refine hK _ ?_; clear hK K')
  refine ord_load (t := 195) rfl rfl rfl (p := .pointer (some ⟨p, 1, none⟩)) (v := .map (some mb)) rfl (fun w' hC => run_loadAt_one hC.heap Tryz.underlying195 rfl rfl) (fun K' hK => ?_)
  go_simp
  refine hK _ ?_
  clear hK K'
  iterate 3 (refine ord_pure rfl rfl rfl (fun K' hK => ?_); go_big_quiet_op; refine hK _ ?_; clear hK K')
  refine ord_load (t := 196) rfl rfl rfl (p := .pointer (some ⟨p, 0, none⟩)) (v := .slice (some ⟨g, 0, none⟩) L.length cap) rfl (fun w' hC => run_loadAt_one hC.heap Tryz.underlying196 rfl rfl) (fun K' hK => ?_)
  go_simp
  refine hK _ ?_
  clear hK K'
  iterate 3 (refine ord_pure rfl rfl rfl (fun K' hK => ?_); go_big_quiet_op; refine hK _ ?_; clear hK K')
  refine ord_load (t := 3) rfl rfl rfl (p := .pointer (some ⟨g, k * 2, none⟩)) (v := .int .i64 (Hp.g L i).id) rfl (fun w' hC => by rw [← GK.out]; exact run_loadAt_one hC.pull2.heap Tryz.underlying3 rfl (cur_at (L := Hp.swap L i k) Ent.enc_length T2.out (g_get (by rw [HL2.out]; omega)) 0 _ rfl)) (fun K' hK => ?_)
  go_simp
  refine hK _ ?_
  clear hK K'
  iterate 2 (refine ord_pure rfl rfl rfl (fun K' hK => ?_); go_big_quiet_op; refine hK _ ?_; clear hK K')
  obtain ⟨w1, w2, st1, r1, r2, hS5⟩ := Sat.run_entry (P := Tryz.prog) (mt := 195) (k := (Hp.g L k).id) hS4.pull3 Tryz.underlying195 Tryz.underlying3 F1.out (i : Int)
  obtain ⟨w3, w4, st2, r3, r4, hS6⟩ := Sat.run_entry (P := Tryz.prog) (mt := 195) (k := (Hp.g L i).id) hS5 Tryz.underlying195 Tryz.underlying3 F2.out (k : Int)
  clear hS4 hS5
  refine ord_seals rfl rfl (fun K' hK => wp_mapEntry_run rfl rfl rfl r1 (hK (fun _ => True) _ _ trivial ?_))
  clear hK K'
  go_simp
  iterate 1 (refine ord_pure rfl rfl rfl (fun K' hK => ?_); go_big_quiet_op; refine hK _ ?_; clear hK K')
  refine ord_seals rfl rfl (fun K' hK => wp_entryStore_run rfl rfl rfl rfl r2 (hK (fun _ => True) _ _ trivial ?_))
  clear hK K'
  go_simp
  refine ord_seals rfl rfl (fun K' hK => wp_mapEntry_run rfl rfl rfl r3 (hK (fun _ => True) _ _ trivial ?_))
  clear hK K'
  go_simp
  iterate 1 (refine ord_pure rfl rfl rfl (fun K' hK => ?_); go_big_quiet_op; refine hK _ ?_; clear hK K')
  refine ord_seals rfl rfl (fun K' hK => wp_entryStore_run rfl rfl rfl rfl r4 (hK (fun _ => True) _ _ trivial ?_))
  clear hK K'
  go_simp
  refine ord_nil ?_
  go_end0
  refine ⟨rfl, Sat.pile_row_shut (g := g) (mb := mb) (cur := cur2) HX2.out (by rw [HL2.out]; exact h1) h2 (by rw [Z2.out]; exact h3) (by rw [HL2.out]; exact T2.out) ?_⟩
  rw [HL2.out]
  exact hS6.pull3.pull3
end
end Go.Proofs.YtdcekoocnoackaaGreatDoor
