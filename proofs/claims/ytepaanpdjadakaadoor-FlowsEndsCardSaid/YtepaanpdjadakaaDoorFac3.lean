import Derived.Test.YtepaanpdjadakaaDoorDropF
import Derived.Test.YtepaanpdjadakaaDoorFct
import Derived.Test.YtepaanpdjadakaaDoorFac1
/-! Tables of facts: All. -/
namespace Go.Proofs.YtepaanpdjadakaaDoor
open Go Go.RowKit

attribute [local irreducible] wpOrd
def fcts (R : List (Itm Fk)) : List Fct := R.map fun x => ⟨x.key, x.due⟩
theorem fcts_length (R : List (Itm Fk)) : (fcts R).length = R.length := by simp [fcts]
theorem splice_three {z0 s u0 u : Value} {A0 A : List Value} (h0 : A0.length = 17) (h : A.length = 17) : splice (splice (splice (z0 :: (A0 ++ [u0])).toArray 0 [s]) 1 A) 18 [u] = (s :: (A ++ [u])).toArray := by
  have e1 : splice (z0 :: (A0 ++ [u0])).toArray 0 [s] = (s :: (A0 ++ [u0])).toArray := by simp [splice]
  have e2 : splice (s :: (A0 ++ [u0])).toArray 1 A = (s :: (A ++ [u0])).toArray := by
    unfold splice
    rw [h, show (1 : Nat) + 17 = 17 + 1 from rfl, List.drop_succ_cons, List.drop_left' h0]
    simp
  rw [e1, e2]
  unfold splice
  rw [show (18 : Nat) = 17 + 1 from rfl, List.take_succ_cons, List.take_left' h]
  have : (s :: (A ++ [u0])).drop (17 + 1 + [u].length) = [] := List.drop_of_length_le (by simp [h])
  rw [this]
  simp
theorem fct_built (n : ByteArray) (a : Adr) (d : Int) : Tryd.prog.built 99 [(0, .string n), (1, .agg a.enc.toArray), (2, .int .u64 d)] = some (Fct.enc ⟨⟨n, a⟩, d⟩).toArray := by
  rw [built_struct (places := [(0, 1), (1, 17), (18, 1)]) (z := .agg (Fct.enc ⟨⟨⟨#[]⟩, ⟨false, List.replicate 16 0, rfl⟩⟩, 0⟩).toArray) Tryd.underlying99 (by kernel_rfl) (by kernel_rfl)]
  rw [fill_one (off := 0) (by simp [Value.cells]) (by simp [Value.cells, Fct.enc_length])]
  rw [fill_one (off := 1) (by simp [Value.cells, Adr.enc_length]) (by rw [splice_size (by simp [Value.cells, Fct.enc_length])]; simp [Value.cells, Fct.enc_length, Adr.enc_length])]
  rw [fill_one (off := 18) (by simp [Value.cells]) (by rw [splice_size (by rw [splice_size (by simp [Value.cells, Fct.enc_length])]; simp [Value.cells, Fct.enc_length, Adr.enc_length]), splice_size (by simp [Value.cells, Fct.enc_length])]; simp [Value.cells, Fct.enc_length])]
  simp only [Instr.fill, Value.cells]
  have := splice_three (z0 := .string ⟨#[]⟩) (s := .string n) (u0 := .int .u64 0) (u := .int .u64 d) (A0 := Adr.enc ⟨false, List.replicate 16 0, rfl⟩) (Adr.enc_length _) (Adr.enc_length a)
  exact congrArg some this
section
variable {B : Nat} {w0 w w' : World} {F X : HP} {R : List (Itm Fk)} {t room : Nat} {next : Int}
theorem fct_zero : ∃ z, (Tryd.prog.info? 99).map (fun i => (i.zero, i.size, i.bytes)) = some (some z, 19, 48) ∧ (Tryd.prog.info? 99).map (fun i => (i.zero, i.size)) = some (some z, 19) ∧ z.cells.size = 19 := by
  obtain ⟨i, hi, hz⟩ := Option.map_eq_some_iff.1 (show (Tryd.prog.info? 99).map (fun i => (i.zero.map fun z => z.cells.size, i.size, i.bytes)) = some (some 19, 19, 48) by kernel_rfl)
  simp only [Prod.mk.injEq] at hz
  obtain ⟨z, hz1, hz2⟩ := Option.map_eq_some_iff.1 hz.1
  exact ⟨z, by simp [hi, hz1, hz.2], by simp [hi, hz1, hz.2], hz2⟩
theorem exec_build3 {P : Program} {o : Oper} {a : Act} {t i j k : Nat} {x y z : Operand} {u v s : Value} {cells : Array Value} (ho : o.op = .build t #[(i, x), (j, y), (k, z)]) (hx : a.eval x = u) (hy : a.eval y = v) (hz : a.eval z = s) (hb : P.built t [(i, u), (j, v), (k, s)] = some cells) (w' : World) :
    (execOp a.eval o).run P w' = .ok (.value (.agg cells)) w' := by
  have hr := run_build (P := P) w' t ((#[(i, x), (j, y), (k, z)] : Array (Nat × Operand)).map fun (i, x) => (i, a.eval x)) cells (by simpa [hx, hy, hz] using hb)
  unfold execOp
  simp only [ho, Sem.run_bind, hr, Result.andThen_ok]
  rfl
set_option maxRecDepth 8000 in
set_option maxHeartbeats 4000000 in
theorem fAll_any (h : Sat B w0 w (ftab t room R next • F)) : Calls Tryd.prog 61 #[.pointer (some ⟨t, 0, none⟩)] w fun e w' =>
    ∃ v, e = .returned v ∧ Sat B w0 w' (arr 99 19 v R.length ((fcts R).flatMap Fct.enc) • ftab t room R next • F) := by
  obtain ⟨A, c, q, hg, hl1, hl2, hT⟩ := h.tab_open
  have d1 : w.cell? ⟨t, 0, none⟩ = some (.slice A R.length c) := cell_heap hT.heap rfl
  have hS0 := arr_nil (e := 99) (sz := 19) hT
  have HG := Lib.hid hg
  clear hT h hg
  go_enter Tryd.func61, Tryd.ntmps61
  go_wp2_with fail
  go_loopw [3, 5, 13] (fun v _ s wr => ∃ k : Nat, k ≤ R.length ∧ s = .int .i64 k ∧ Sat B w0 wr (arr 99 19 v k ((fcts (R.take k)).flatMap Fct.enc) • blk t (.cells #[.slice A R.length c, .pointer (some ⟨q, 0, none⟩), .int .i64 next] 178) • arr 180 (18 + 1) (.slice A R.length c) R.length (R.flatMap (itmC Fk.enc)) • queue q room (ents R) • F)) (fun _ _ s _ => R.length - (intOf s).toNat)
  case atStart => exact ⟨0, Nat.zero_le _, rfl, by simpa [fcts] using hS0⟩
  case round =>
    clear hS0 d1
    obtain ⟨k, hk, rfl, hS⟩ := hrel
    obtain ⟨A3, c3, hv3⟩ := hS.arr_form
    subst hv3
    by_cases hlt : k < R.length
    · obtain ⟨x, hxk⟩ : ∃ x, R[k]? = some x := ⟨_, List.getElem?_eq_getElem hlt⟩
      obtain ⟨g, rfl, _, hc⟩ := hS.pull3.arr_at (itmC_length Fk.enc_length) rfl hxk
      have hltz : (k : Int) < R.length := by omega
      have hda := HG.out.due (List.mem_of_getElem? hxk)
      have hl : (Instr.loadAt 180 (.pointer (some ⟨g, k * 19, none⟩))).run Tryd.prog wr = .ok (.agg (itmC Fk.enc x).toArray) wr :=
        run_loadAt_cells Tryd.underlying180 rfl (by rw [itmC_length Fk.enc_length]; kernel_rfl) (fun j u hu => by rw [Addr.add_lit]; exact hc j u hu)
      have hst : ∀ (W : World) (z : Array Value), z.size = 19 → (Instr.storeAt 180 (.pointer (some ⟨W.heap.size, 0, none⟩)) (.agg (itmC Fk.enc x).toArray)).run Tryd.prog (W.alloc (.cells z 180)) = .ok () (W.alloc (.cells (itmC Fk.enc x).toArray 180)) :=
        fun W z hz => run_storeAt_new (v := .agg (itmC Fk.enc x).toArray) (by simp only [Value.cells, List.size_toArray, itmC_length Fk.enc_length]; kernel_rfl) (by simp only [Value.cells, List.size_toArray, itmC_length Fk.enc_length]; exact hz) (by simpa [Value.cells] using itmC_one Fk.enc_one x)
      have hX := (hS.alloc (.cells (itmC Fk.enc x).toArray 180)).drew
      have hlx : ∀ W, W.heap[wr.heap.size]? = some (.cells (itmC Fk.enc x).toArray 180) → (Instr.loadAt 180 (.pointer (some ⟨wr.heap.size, 0, none⟩))).run Tryd.prog W = .ok (.agg (itmC Fk.enc x).toArray) W ∧ (Instr.loadAt 63 (.pointer (some ⟨wr.heap.size, 1, none⟩))).run Tryd.prog W = .ok (.agg x.key.adr.enc.toArray) W ∧ W.cell? ⟨wr.heap.size, 0, none⟩ = some (.string x.key.name) := by
        intro W h
        refine ⟨run_loadAt_row h Tryd.underlying180 rfl (by rw [itmC_length Fk.enc_length]; kernel_rfl) (fun j u hu => by simpa using hu), run_loadAt_row h Tryd.underlying63 rfl (by rw [Adr.enc_length]; kernel_rfl) (fun j u hu => ?_), cell_heap h (by simp [itmC, Fk.enc])⟩
        rw [List.getElem?_toArray]
        exact itmC_key x (by rw [Fk.at1]; exact hu)
      have HLX := Lib.hid hlx
      have c1 := fEnd_any hda (hX.to (by ac_rfl : _ = blk t (.cells #[.slice (some ⟨g, 0, none⟩) R.length c, .pointer (some ⟨q, 0, none⟩), .int .i64 next] 178) • queue q room (ents R) • arr 99 19 (.slice A3 k c3) k ((fcts (R.take k)).flatMap Fct.enc) • arr 180 (18 + 1) (.slice (some ⟨g, 0, none⟩) R.length c) R.length (R.flatMap (itmC Fk.enc)) • blk wr.heap.size (.cells (itmC Fk.enc x).toArray 180) • F))
      have htk : (fcts (R.take k)).flatMap Fct.enc ++ Fct.enc ⟨x.key, x.due⟩ = (fcts (R.take (k + 1))).flatMap Fct.enc := by
        unfold fcts
        rw [List.take_add_one, hxk, Option.toList_some, List.map_append, List.flatMap_append]
        simp
      have HTK := Lib.hid htk
      have HFB := Lib.hid (fct_built x.key.name x.key.adr x.due)
      have HFO := Lib.hid (And.intro (Fct.enc_one ⟨x.key, x.due⟩) (Fct.enc_length ⟨x.key, x.due⟩))
      clear hlx hS hc hxk htk hda
      have hke : (⟨⟨x.key.name, x.key.adr⟩, x.due⟩ : Fct) = ⟨x.key, x.due⟩ := rfl
      rw [hke] at HFB
      generalize (itmC Fk.enc x).toArray = Y at *
      generalize Fct.enc ⟨x.key, x.due⟩ = FE at *
      generalize x.key.adr.enc.toArray = AE at *
      clear hke
      go_wp2_with (first | (refine wpList_load_run (t := 180) rfl rfl rfl hl ?_) | (refine wpList_store_run (t := 180) rfl rfl rfl rfl (hst _ _ rfl) (stop_ ?_)))
      unfold Stop
      go_wp2_with fail
      try go_frame
      obtain ⟨z, hz1, hz2, hz3⟩ := fct_zero
      refine wp_region_ord [(0, .pure), (1, .pure), (2, .quiet), (3, .pure), (4, .quiet), (5, .pure), (6, .quiet), (7, .acts), (8, .pure), (9, .acts), (10, .seals), (11, .pure)] (by kernel_rfl) (by kernel_rfl)
        (fun w' => w'.heap[wr.heap.size]? = some (.cells Y 180)) hX.heap ?_
      iterate 2 (refine ord_pure rfl rfl rfl (fun K' hK => ?_); go_big_quiet_op; refine hK _ ?_; clear hK K')
      refine ord_load (t := 9) rfl rfl rfl (p := .pointer (some ⟨wr.heap.size, 0, none⟩)) (v := .string x.key.name) rfl (fun w' hC => load_one Tryd.underlying9 rfl (HLX.out _ hC).2.2) (fun K' hK => ?_)
      go_simp
      refine hK _ ?_
      clear hK K'
      iterate 1 (refine ord_pure rfl rfl rfl (fun K' hK => ?_); go_big_quiet_op; refine hK _ ?_; clear hK K')
      refine ord_load (t := 63) rfl rfl rfl (p := .pointer (some ⟨wr.heap.size, 1, none⟩)) (v := .agg AE) rfl (fun w' hC => (HLX.out _ hC).2.1) (fun K' hK => ?_)
      go_simp
      refine hK _ ?_
      clear hK K'
      iterate 1 (refine ord_pure rfl rfl rfl (fun K' hK => ?_); go_big_quiet_op; refine hK _ ?_; clear hK K')
      refine ord_load (t := 180) rfl rfl rfl (p := .pointer (some ⟨wr.heap.size, 0, none⟩)) (v := .agg Y) rfl (fun w' hC => (HLX.out _ hC).1) (fun K' hK => ?_)
      go_simp
      refine hK _ ?_
      clear hK K'
      refine ord_acts rfl rfl (fun K' hK => ?_)
      go_simp
      refine (c1).mono ?_
      rintro e w3 ⟨rfl, hb⟩
      have hS4 := hX.below_ hb
      have hS5 := hS4.pull2.alloc_ (.cells FE.toArray 99)
      obtain ⟨v6, w6, hrun, hS6⟩ := hS5.append (m := 1) (news := FE) (t := 100) (ty := 100) (P := Tryd.prog) (x := .slice (some ⟨w3.heap.size, 0, none⟩) 1 1) Tryd.underlying100 hz1 hz3 (by decide) reads_new (by rw [HFO.out.2]) HFO.out.1 (by unfold maxLen; omega) (by omega)
      rw [HTK.out] at hS6
      obtain ⟨A6, c6, rfl⟩ := hS6.arr_form
      have hC6 : (w3.alloc (.cells FE.toArray 99)).heap[wr.heap.size]? = some (.cells Y 180) := hS5.pull2.heap
      have hS6 := hS6.pull2.drop
      refine hK _ _ (hS4.heap) ?_
      clear hK K'
      go_simp
      refine ord_run (v := .agg FE.toArray) rfl rfl (exec_build3 rfl (u := .string x.key.name) (v := .agg AE) (s := .int .u64 x.due) rfl rfl rfl HFB.out) (fun K' hK => ?_)
      go_simp
      refine hK _ ?_
      clear hK K'
      refine ord_acts rfl rfl (fun K' hK => wp_buildSlice_one (v := .agg FE.toArray) (sz := 19) rfl rfl Tryd.underlying100 hz2 (by simp [Value.cells, HFO.out.2]) (by decide) (by decide) (hK _ _ hC6 ?_))
      clear hK K'
      go_simp
      refine ord_seals rfl rfl (fun K' hK => wp_append_run _ _ _ rfl rfl rfl hrun (hK (fun _ => True) _ _ trivial ?_))
      clear hK K'
      go_simp
      iterate 1 (refine ord_pure rfl rfl rfl (fun K' hK => ?_); go_big_quiet_op; refine hK _ ?_; clear hK K')
      refine ord_nil ?_
      go_wp2_with fail
      go_roundw
      case rel => exact ⟨k + 1, by omega, by go_num, hS6⟩
      case measure => simp [intOf]; omega
    · obtain rfl : k = R.length := by omega
      have hltz : ¬ (R.length : Int) < R.length := by omega
      rw [List.take_length] at hS
      go_wp2_with fail
      go_ret
      exact ⟨_, rfl, (Sat.tab_shut (v := .slice A R.length c) (q := q) HG.out (hS.to (by ac_rfl : _ = blk t (.cells #[.slice A R.length c, .pointer (some ⟨q, 0, none⟩), .int .i64 next] 178) • arr 180 (18 + 1) (.slice A R.length c) R.length (R.flatMap (itmC Fk.enc)) • queue q room (ents R) • arr 99 19 (.slice A3 R.length c3) R.length ((fcts R).flatMap Fct.enc) • F))).pull2⟩
end
end Go.Proofs.YtepaanpdjadakaaDoor
