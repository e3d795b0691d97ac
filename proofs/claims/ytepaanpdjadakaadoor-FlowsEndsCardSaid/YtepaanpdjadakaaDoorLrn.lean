import Derived.Test.YtepaanpdjadakaaDoorLrnP
import Derived.Test.YtepaanpdjadakaaDoorPendA
import Derived.Lib.MinMax
/-! Tables of facts: Learn. -/
namespace Go.Proofs.YtepaanpdjadakaaDoor
open Go Go.RowKit

theorem fitem_built (n : ByteArray) (a : Adr) (id u : Int) : Tryd.prog.built 180 [(0, .string n), (1, .agg a.enc.toArray), (2, .int .i64 id)] = some (itmC Fk.enc ⟨⟨n, a⟩, id, u⟩).toArray := by
  have hz : Tryd.prog.info? 180 = Tryd.prog.info? 180 := rfl
  rw [built_struct (places := [(0, 1), (1, 17), (18, 1)]) (z := .agg (itmC Fk.enc ⟨⟨⟨#[]⟩, ⟨false, List.replicate 16 0, rfl⟩⟩, 0, 0⟩).toArray) Tryd.underlying180 (by kernel_rfl) (by kernel_rfl)]
  rw [fill_one (off := 0) (by simp [Value.cells]) (by simp [Value.cells, itmC, Fk.enc_length])]
  rw [fill_one (off := 1) (by simp [Value.cells, Adr.enc_length]) (by rw [splice_size (by simp [Value.cells, itmC, Fk.enc_length])]; simp [Value.cells, itmC, Fk.enc_length, Adr.enc_length])]
  rw [fill_one (off := 18) (by simp [Value.cells]) (by rw [splice_size (by rw [splice_size (by simp [Value.cells, itmC, Fk.enc_length])]; simp [Value.cells, itmC, Fk.enc_length, Adr.enc_length]), splice_size (by simp [Value.cells, itmC, Fk.enc_length])]; simp [Value.cells, itmC, Fk.enc_length])]
  simp only [Instr.fill, Value.cells]
  have := splice_three (z0 := .string ⟨#[]⟩) (s := .string n) (u0 := .int .i64 0) (u := .int .i64 id) (A0 := Adr.enc ⟨false, List.replicate 16 0, rfl⟩) (Adr.enc_length _) (Adr.enc_length a)
  exact congrArg some this
theorem lfitem_zero : ∃ z, (Tryd.prog.info? 180).map (fun i => (i.zero, i.size, i.bytes)) = some (some z, 19, 48) ∧ (Tryd.prog.info? 180).map (fun i => (i.zero, i.size)) = some (some z, 19) ∧ z.cells.size = 19 := by
  obtain ⟨i, hi, hz⟩ := Option.map_eq_some_iff.1 (show (Tryd.prog.info? 180).map (fun i => (i.zero.map fun z => z.cells.size, i.size, i.bytes)) = some (some 19, 19, 48) by kernel_rfl)
  simp only [Prod.mk.injEq] at hz
  obtain ⟨z, hz1, hz2⟩ := Option.map_eq_some_iff.1 hz.1
  exact ⟨z, by simp [hi, hz1, hz.2], by simp [hi, hz1, hz.2], hz2⟩
theorem wpList_eql_want {P : Program} {w : World} {ops : Array Oper} {rest : List Oper} {o : Oper} {a : Act} {Q : Exit → Act → World → Prop} (hw : Region.wanted o (yielded ops a.tmps) = true) {t t' : TypeId} {x y : Operand} (ho : o.op = .binOp .eql t x y t') {xs ys : Array Value} {r : Bool} (hx : a.eval x = .agg xs) (hy : a.eval y = .agg ys)
    (hg : P.eqGuardType P.depth t = false) (hr : EqV P w 10000 t (.agg xs) (.agg ys) r) (h : wpList P ops Q rest (a.put o.dst (.bool r)) w) : wpList P ops Q (o :: rest) a w :=
  BigFrame.wpList_want hw fun _ hK => wp_eql_run ho hx hy hg hr (hK _ _ h)
section
variable {B : Nat} {w0 w w' : World} {F X : HP} {R : List (Itm Fk)} {t room : Nat} {next : Int}
theorem fLearn_nil (name : ByteArray) (a : Adr) (u : Int) (w : World) : Calls Tryd.prog 58 #[.pointer none, .string name, .agg a.enc.toArray, .int .u64 u] w fun e w' => e = .returned (errV 2) ∧ Below w.heap.size w w' := by
  have hB := ((Sat.start w).alloc_ (.cells a.enc.toArray 63)).below
  generalize a.enc.toArray = Q at *
  go_enter Tryd.func58, Tryd.ntmps58
  go_wp2_with fail
  go_ret
  exact ⟨rfl, hB⟩
attribute [local irreducible] wpOrd
set_option maxRecDepth 8000 in
set_option maxHeartbeats 8000000 in
theorem fLearn_any (h : Sat B w0 w (ftab t room R next • F)) (hB : 0 < B) (hE : Et w0) (hn : KNF R) (hnx : 0 ≤ next ∧ next ≤ 1000000000) (name : ByteArray) (a : Adr) (u : Int) : Calls Tryd.prog 58 #[.pointer (some ⟨t, 0, none⟩), .string name, .agg a.enc.toArray, .int .u64 u] w fun e w' =>
    e = .returned (errV (lrnC room R ⟨name, a⟩)) ∧ Sat B w0 w' (ftab t room (lrnR room R next ⟨name, a⟩ u) (lrnN room R next ⟨name, a⟩) • F) := by
  have e0 : errV 0 = .nilIface := rfl
  have hX := h.alloc (.cells a.enc.toArray 63)
  have hla : ∀ W, W.heap[w.heap.size]? = some (.cells a.enc.toArray 63) → (Instr.loadAt 63 (.pointer (some ⟨w.heap.size, 0, none⟩))).run Tryd.prog W = .ok (.agg a.enc.toArray) W :=
    fun W h => run_loadAt_row h Tryd.underlying63 rfl (by rw [Adr.enc_length]; kernel_rfl) (fun j u hu => by simpa using hu)
  have HLA := Lib.hid hla
  have HEQ := Lib.hid (fun (x : Adr) (w : World) => (adr_eq 9997 x a : EqV Tryd.prog w 10000 63 _ _ (decide (x = a))))
  have HIB := Lib.hid (fitem_built name a next u)
  obtain ⟨A, c, q, hg, hl1, hl2, hT⟩ := hX.pull2.tab_open
  have d1 : (w.alloc (.cells a.enc.toArray 63)).cell? ⟨t, 0, none⟩ = some (.slice A R.length c) := cell_heap hT.heap rfl
  have hRl : R.length ≤ 1000 := by omega
  have HG := Lib.hid hg
  have HN := Lib.hid hn
  have HE := Lib.hid hE
  have HA1 := Lib.hid a.enc_one
  clear hla hX h hg hn hE
  generalize hAE : a.enc.toArray = AE at *
  generalize hxb : w.heap.size = xb at *
  clear hAE
  go_enter Tryd.func58, Tryd.ntmps58
  go_wp2_with fail
  try rw [hxb]
  go_loopw [10, 20] (fun _ s wr => ∃ k : Nat, k ≤ R.length ∧ s = .int .i64 k ∧ Sat B w0 wr (blk t (.cells #[.slice A R.length c, .pointer (some ⟨q, 0, none⟩), .int .i64 next] 178) • arr 180 (18 + 1) (.slice A R.length c) R.length (R.flatMap (itmC Fk.enc)) • queue q room (ents R) • blk xb (.cells AE 63) • F) ∧ Hid (∀ j y, j < k → R[j]? = some y → isK ⟨name, a⟩ y = false)) (fun _ s _ => R.length - (intOf s).toNat)
  case atStart => exact ⟨0, Nat.zero_le _, rfl, hT, Lib.hid fun j y hj => absurd hj (Nat.not_lt_zero _)⟩
  case round =>
    clear hT d1 hxb
    obtain ⟨k, hk, rfl, hS, HK⟩ := hrel
    by_cases hlt : k < R.length
    · obtain ⟨x, hxk⟩ : ∃ x, R[k]? = some x := ⟨_, List.getElem?_eq_getElem hlt⟩
      obtain ⟨g, rfl, _, hc⟩ := hS.pull2.arr_at (itmC_length Fk.enc_length) rfl hxk
      have hltz : (k : Int) < R.length := by omega
      have hda := HG.out.due (List.mem_of_getElem? hxk)
      have hl : (Instr.loadAt 180 (.pointer (some ⟨g, k * 19, none⟩))).run Tryd.prog wr = .ok (.agg (itmC Fk.enc x).toArray) wr :=
        run_loadAt_cells Tryd.underlying180 rfl (by rw [itmC_length Fk.enc_length]; kernel_rfl) (fun j u hu => by rw [Addr.add_lit]; exact hc j u hu)
      have hst : ∀ (W : World) (z : Array Value), z.size = 19 → (Instr.storeAt 180 (.pointer (some ⟨W.heap.size, 0, none⟩)) (.agg (itmC Fk.enc x).toArray)).run Tryd.prog (W.alloc (.cells z 180)) = .ok () (W.alloc (.cells (itmC Fk.enc x).toArray 180)) :=
        fun W z hz => run_storeAt_new (v := .agg (itmC Fk.enc x).toArray) (by simp only [Value.cells, List.size_toArray, itmC_length Fk.enc_length]; kernel_rfl) (by simp only [Value.cells, List.size_toArray, itmC_length Fk.enc_length]; exact hz) (by simpa [Value.cells] using itmC_one Fk.enc_one x)
      have hX := hS.alloc (.cells (itmC Fk.enc x).toArray 180)
      have hlx : ∀ W, W.heap[wr.heap.size]? = some (.cells (itmC Fk.enc x).toArray 180) → (Instr.loadAt 180 (.pointer (some ⟨wr.heap.size, 0, none⟩))).run Tryd.prog W = .ok (.agg (itmC Fk.enc x).toArray) W ∧ (Instr.loadAt 63 (.pointer (some ⟨wr.heap.size, 1, none⟩))).run Tryd.prog W = .ok (.agg x.key.adr.enc.toArray) W ∧ W.cell? ⟨wr.heap.size, 0, none⟩ = some (.string x.key.name) ∧ W.cell? ⟨wr.heap.size, 18, none⟩ = some (.int .i64 x.id) := by
        intro W h
        refine ⟨run_loadAt_row h Tryd.underlying180 rfl (by rw [itmC_length Fk.enc_length]; kernel_rfl) (fun j u hu => by simpa using hu), run_loadAt_row h Tryd.underlying63 rfl (by rw [Adr.enc_length]; kernel_rfl) (fun j u hu => ?_), cell_heap h (by simp [itmC, Fk.enc]), cell_heap h (by simpa using itmC_id (ek := Fk.enc) Fk.enc_length x)⟩
        rw [List.getElem?_toArray]
        exact itmC_key x (by rw [Fk.at1]; exact hu)
      have HLX := Lib.hid hlx
      have HX := Lib.hid hxk
      have hln := (hlx _ hX.heap).2.1
      have dn := (hlx _ hX.heap).2.2.1
      have hlb := HLA.out _ (hX.to (by ac_rfl : _ = blk xb (.cells AE 63) • (blk wr.heap.size (.cells (itmC Fk.enc x).toArray 180) • blk t (.cells #[.slice (some ⟨g, 0, none⟩) R.length c, .pointer (some ⟨q, 0, none⟩), .int .i64 next] 178) • arr 180 (18 + 1) (.slice (some ⟨g, 0, none⟩) R.length c) R.length (R.flatMap (itmC Fk.enc)) • queue q room (ents R) • F))).heap
      have hnb : (x.key.name.toList == name.toList) = decide (x.key.name = name) := strl _ _
      have he := HEQ.out x.key.adr
      clear hlx hS hc hxk
      cases hq1 : decide (x.key.name = name) with
      | false =>
        have hno : isK ⟨name, a⟩ x = false := by
          unfold isK
          refine decide_eq_false fun e => ?_
          rw [e] at hq1
          simp at hq1
        have HNO := Lib.hid hno
        rw [hq1] at hnb
        clear hno hq1 he hln hlb hda
        generalize (itmC Fk.enc x).toArray = Y at *
        generalize x.key.name = xn at *
        go_wp2_with (first | (refine wpList_load_run (t := 180) rfl rfl rfl hl ?_) | (refine wpList_store_run (t := 180) rfl rfl rfl rfl (hst _ _ rfl) (stop_ ?_)))
        unfold Stop
        go_wp2_with fail
        go_roundw
        case rel => exact ⟨k + 1, by omega, by go_num, hX.drop, Lib.hid (plc_next HK.out HX.out HNO.out)⟩
        case measure => simp [intOf]; omega
      | true =>
        cases hq2 : decide (x.key.adr = a) with
        | false =>
          have hno : isK ⟨name, a⟩ x = false := by
            unfold isK
            refine decide_eq_false fun e => ?_
            rw [e] at hq2
            simp at hq2
          have HNO := Lib.hid hno
          rw [hq1] at hnb
          rw [hq2] at he
          clear hno hq1 hq2 hda
          generalize (itmC Fk.enc x).toArray = Y at *
          generalize x.key.adr.enc.toArray = XE at *
          generalize x.key.name = xn at *
          go_wp2_with (first | (refine wpList_load_run (t := 180) rfl rfl rfl hl ?_) | (refine wpList_store_run (t := 180) rfl rfl rfl rfl (hst _ _ rfl) (stop_ ?_)))
          unfold Stop
          go_wp2_with (first | (refine wpList_load_want (t := 63) rfl rfl rfl hln ?_) | (refine wpList_load_want (t := 63) rfl rfl rfl hlb ?_) | (refine wpList_eql_want rfl rfl rfl rfl (by kernel_rfl) (he _) ?_))
          go_roundw
          case rel => exact ⟨k + 1, by omega, by go_num, hX.drop, Lib.hid (plc_next HK.out HX.out HNO.out)⟩
          case measure => simp [intOf]; omega
        | true =>
          have hkx : x.key = ⟨name, a⟩ := by
            have h1 := of_decide_eq_true hq1
            have h2 := of_decide_eq_true hq2
            cases hk : x.key with
            | mk n b => rw [hk] at h1 h2; simp only at h1 h2; rw [h1, h2]
          have hany : R.any (isK ⟨name, a⟩) = true := by rw [List.any_eq_true]; exact ⟨x, List.mem_of_getElem? HX.out, by simp [isK, hkx]⟩
          have hr : lrnC room R ⟨name, a⟩ = 0 ∧ lrnR room R next ⟨name, a⟩ u = setDue R x.id (max u x.due) ∧ lrnN room R next ⟨name, a⟩ = next := by
            refine ⟨by unfold lrnC; rw [hany]; rfl, ?_, by unfold lrnN; rw [hany]; rfl⟩
            unfold lrnR
            rw [hany, upK_due HN.out HG.out HX.out, hkx]
            rfl
          have HR := Lib.hid hr
          have HNC := Lib.hid (noneC_yes (itm_has (List.mem_of_getElem? HX.out)))
          have HGS := Lib.hid (HG.out.setDue x.id (max u x.due))
          have c1 := fun W (hW : Sat B w0 W (blk wr.heap.size (.cells (itmC Fk.enc x).toArray 180) • blk t (.cells #[.slice (some ⟨g, 0, none⟩) R.length c, .pointer (some ⟨q, 0, none⟩), .int .i64 next] 178) • queue q room (ents R) • arr 180 (18 + 1) (.slice (some ⟨g, 0, none⟩) R.length c) R.length (R.flatMap (itmC Fk.enc)) • blk xb (.cells AE 63) • F)) => fEnd_any hda hW.drop
          have hX2 := (hX.to (by ac_rfl : _ = blk wr.heap.size (.cells (itmC Fk.enc x).toArray 180) • blk t (.cells #[.slice (some ⟨g, 0, none⟩) R.length c, .pointer (some ⟨q, 0, none⟩), .int .i64 next] 178) • queue q room (ents R) • arr 180 (18 + 1) (.slice (some ⟨g, 0, none⟩) R.length c) R.length (R.flatMap (itmC Fk.enc)) • blk xb (.cells AE 63) • F)).drew
          rw [hq1] at hnb
          rw [hq2] at he
          clear hr hany hkx hq1 hq2 hda hX
          generalize (itmC Fk.enc x).toArray = Y at *
          generalize x.key.adr.enc.toArray = XE at *
          generalize x.key.name = xn at *
          generalize x.due = xd at *
          generalize x.id = xi at *
          go_wp2_with (first | (refine wpList_load_run (t := 180) rfl rfl rfl hl ?_) | (refine wpList_store_run (t := 180) rfl rfl rfl rfl (hst _ _ rfl) (stop_ ?_)))
          unfold Stop
          go_wp2_with (first | (refine wpList_load_want (t := 63) rfl rfl rfl hln ?_) | (refine wpList_load_want (t := 63) rfl rfl rfl hlb ?_) | (refine wpList_eql_want rfl rfl rfl rfl (by kernel_rfl) (he _) ?_))
          try go_frame
          refine wp_region_ord [(0, .pure), (1, .pure), (2, .pure), (3, .quiet), (4, .pure), (5, .quiet), (6, .pure), (7, .pure), (8, .quiet), (9, .acts), (10, .pure), (11, .seals), (12, .pure)] (by kernel_rfl) (by kernel_rfl)
            (fun w' => w'.cell? ⟨t, 1, none⟩ = some (.pointer (some ⟨q, 0, none⟩)) ∧ w'.heap[wr.heap.size]? = some (.cells Y 180)) ⟨cell_heap hX2.pull2.heap rfl, hX2.heap⟩ ?_
          iterate 3 (refine ord_pure rfl rfl rfl (fun K' hK => ?_); go_big_quiet_op; refine hK _ ?_; clear hK K')
          refine ord_load (t := 25) rfl rfl rfl (p := .pointer (some ⟨t, 1, none⟩)) (v := .pointer (some ⟨q, 0, none⟩)) rfl (fun w' hC => load_one Tryd.underlying25 rfl hC.1) (fun K' hK => ?_)
          go_simp
          refine hK _ ?_
          clear hK K'
          iterate 1 (refine ord_pure rfl rfl rfl (fun K' hK => ?_); go_big_quiet_op; refine hK _ ?_; clear hK K')
          refine ord_load (t := 3) rfl rfl rfl (p := .pointer (some ⟨wr.heap.size, 18, none⟩)) (v := .int .i64 xi) rfl (fun w' hC => load_one Tryd.underlying3 rfl (HLX.out _ hC.2).2.2.2) (fun K' hK => ?_)
          go_simp
          refine hK _ ?_
          clear hK K'
          iterate 2 (refine ord_pure rfl rfl rfl (fun K' hK => ?_); go_big_quiet_op; refine hK _ ?_; clear hK K')
          refine ord_load (t := 180) rfl rfl rfl (p := .pointer (some ⟨wr.heap.size, 0, none⟩)) (v := .agg Y) rfl (fun w' hC => (HLX.out _ hC.2).1) (fun K' hK => ?_)
          go_simp
          refine hK _ ?_
          clear hK K'
          refine ord_acts rfl rfl (fun K' hK => ?_)
          go_simp
          refine (c1 _ hX2).mono ?_
          rintro e w3 ⟨rfl, hb⟩
          have hS4 := hX2.below_ hb
          refine hK _ _ (⟨cell_heap hS4.pull2.heap rfl, hS4.heap⟩) ?_
          clear hK K'
          go_simp
          iterate 1 (refine ord_pure rfl rfl rfl (fun K' hK => ?_); go_big_quiet_op; refine hK _ ?_; clear hK K')
          refine ord_seals rfl rfl (fun K' hK => ?_)
          go_simp
          refine (qMove_any hS4.pull3 xi (max u xd)).mono ?_
          rintro e w5 ⟨rfl, hS5⟩
          refine hK (fun _ => True) _ _ trivial ?_
          clear hK K'
          go_simp
          iterate 1 (refine ord_pure rfl rfl rfl (fun K' hK => ?_); go_big_quiet_op; refine hK _ ?_; clear hK K')
          refine ord_nil ?_
          go_wp2_with fail
          go_ret
          rw [HNC.out, HR.out.1, HR.out.2.1, HR.out.2.2]
          refine ⟨rfl, Sat.tab_shut (v := .slice (some ⟨g, 0, none⟩) R.length c) (q := q) HGS.out ?_⟩
          rw [setDue_cellsF, setDue_length, ents_setDue]
          exact (hS5.to (by ac_rfl : _ = blk xb (.cells AE 63) • blk wr.heap.size (.cells Y 180) • blk t (.cells #[.slice (some ⟨g, 0, none⟩) R.length c, .pointer (some ⟨q, 0, none⟩), .int .i64 next] 178) • arr 180 (18 + 1) (.slice (some ⟨g, 0, none⟩) R.length c) R.length (R.flatMap (itmC Fk.enc)) • queue q room (withDue (ents R) xi (max u xd)) • F)).drop.drop
    · obtain rfl : k = R.length := by omega
      have hltz : ¬ (R.length : Int) < R.length := by omega
      have hany : R.any (isK ⟨name, a⟩) = false := by
        rw [List.any_eq_false]
        intro x hx
        obtain ⟨i, hi⟩ := List.mem_iff_getElem?.1 hx
        have := HK.out i x (List.getElem?_eq_some_iff.1 hi).1 hi
        simp [this]
      have hnn := HG.out.hasnt
      have hT2 := (hS.to (by ac_rfl : _ = blk t (.cells #[.slice A R.length c, .pointer (some ⟨q, 0, none⟩), .int .i64 next] 178) • arr 180 (18 + 1) (.slice A R.length c) R.length (R.flatMap (itmC Fk.enc)) • queue q room (ents R) • blk xb (.cells AE 63) • F)).drew
      clear HK hS
      by_cases hfull : room ≤ R.length
      · have hr : lrnC room R ⟨name, a⟩ = 18 ∧ lrnR room R next ⟨name, a⟩ u = R ∧ lrnN room R next ⟨name, a⟩ = next := by unfold lrnC lrnR lrnN; simp [hany, hfull]
        have HR := Lib.hid hr
        have hpc : pushC room (ents R) next = 18 ∧ pushS room (ents R) next u = ents R := by unfold pushC pushS; rw [hnn, ents_length]; simp [hfull]
        have HPC := Lib.hid hpc
        clear hany hnn hr hpc hfull HIB
        go_wp2_with fail
        try go_frame
        refine wp_region_ord [(0, .pure), (1, .pure), (2, .pure), (3, .quiet), (4, .pure), (5, .pure), (6, .pure), (7, .quiet), (8, .pure), (9, .seals), (10, .pure)] (by kernel_rfl) (by kernel_rfl)
          (fun w' => w'.cell? ⟨t, 1, none⟩ = some (.pointer (some ⟨q, 0, none⟩)) ∧ w'.cell? ⟨t, 2, none⟩ = some (.int .i64 next)) ⟨cell_heap hT2.heap rfl, cell_heap hT2.heap rfl⟩ ?_
        iterate 3 (refine ord_pure rfl rfl rfl (fun K' hK => ?_); go_big_quiet_op; refine hK _ ?_; clear hK K')
        refine ord_load (t := 25) rfl rfl rfl (p := .pointer (some ⟨t, 1, none⟩)) (v := .pointer (some ⟨q, 0, none⟩)) rfl (fun w' hC => load_one Tryd.underlying25 rfl hC.1) (fun K' hK => ?_)
        go_simp
        refine hK _ ?_
        clear hK K'
        iterate 3 (refine ord_pure rfl rfl rfl (fun K' hK => ?_); go_big_quiet_op; refine hK _ ?_; clear hK K')
        refine ord_load (t := 3) rfl rfl rfl (p := .pointer (some ⟨t, 2, none⟩)) (v := .int .i64 next) rfl (fun w' hC => load_one Tryd.underlying3 rfl hC.2) (fun K' hK => ?_)
        go_simp
        refine hK _ ?_
        clear hK K'
        iterate 1 (refine ord_pure rfl rfl rfl (fun K' hK => ?_); go_big_quiet_op; refine hK _ ?_; clear hK K')
        refine ord_seals rfl rfl (fun K' hK => ?_)
        go_simp
        refine (qPush_any hT2.pull3 (hT2.et hB HE.out) next u).mono ?_
        rintro e w3 ⟨rfl, hS3⟩
        rw [HPC.out.1]
        refine hK (fun _ => True) _ _ trivial ?_
        clear hK K'
        go_simp
        iterate 1 (refine ord_pure rfl rfl rfl (fun K' hK => ?_); go_big_quiet_op; refine hK _ ?_; clear hK K')
        refine ord_nil ?_
        have c3 := eis_any 18 18 (by decide) w3
        rw [HPC.out.2] at hS3
        rw [show ((18 : Int) == 18) = true from rfl] at c3
        go_wp2_with fail
        refine c3.mono ?_
        rintro e wx ⟨rfl, rfl⟩
        go_wp2_with fail
        go_ret
        rw [HR.out.1, HR.out.2.1, HR.out.2.2]
        refine ⟨rfl, Sat.tab_shut (v := .slice A R.length c) (q := q) HG.out ?_⟩
        exact (hS3.to (by ac_rfl : _ = blk xb (.cells AE 63) • blk t (.cells #[.slice A R.length c, .pointer (some ⟨q, 0, none⟩), .int .i64 next] 178) • arr 180 (18 + 1) (.slice A R.length c) R.length (R.flatMap (itmC Fk.enc)) • queue q room (ents R) • F)).drop
      · have hr : lrnC room R ⟨name, a⟩ = 0 ∧ lrnR room R next ⟨name, a⟩ u = R ++ [⟨⟨name, a⟩, next, u⟩] ∧ lrnN room R next ⟨name, a⟩ = next + 1 := by unfold lrnC lrnR lrnN; simp [hany, hfull]
        have HR := Lib.hid hr
        have hpc : pushC room (ents R) next = 0 ∧ pushS room (ents R) next u = ents (R ++ [⟨⟨name, a⟩, next, u⟩]) := by unfold pushC pushS; rw [hnn, ents_length, ents_add]; simp [hfull]
        have HPC := Lib.hid hpc
        have HG2 := Lib.hid (HG.out.add ⟨name, a⟩ u)
        clear hany hnn hr hpc hfull
        go_wp2_with fail
        try go_frame
        refine wp_region_ord [(0, .pure), (1, .pure), (2, .pure), (3, .quiet), (4, .pure), (5, .pure), (6, .pure), (7, .quiet), (8, .pure), (9, .seals), (10, .pure)] (by kernel_rfl) (by kernel_rfl)
          (fun w' => w'.cell? ⟨t, 1, none⟩ = some (.pointer (some ⟨q, 0, none⟩)) ∧ w'.cell? ⟨t, 2, none⟩ = some (.int .i64 next)) ⟨cell_heap hT2.heap rfl, cell_heap hT2.heap rfl⟩ ?_
        iterate 3 (refine ord_pure rfl rfl rfl (fun K' hK => ?_); go_big_quiet_op; refine hK _ ?_; clear hK K')
        refine ord_load (t := 25) rfl rfl rfl (p := .pointer (some ⟨t, 1, none⟩)) (v := .pointer (some ⟨q, 0, none⟩)) rfl (fun w' hC => load_one Tryd.underlying25 rfl hC.1) (fun K' hK => ?_)
        go_simp
        refine hK _ ?_
        clear hK K'
        iterate 3 (refine ord_pure rfl rfl rfl (fun K' hK => ?_); go_big_quiet_op; refine hK _ ?_; clear hK K')
        refine ord_load (t := 3) rfl rfl rfl (p := .pointer (some ⟨t, 2, none⟩)) (v := .int .i64 next) rfl (fun w' hC => load_one Tryd.underlying3 rfl hC.2) (fun K' hK => ?_)
        go_simp
        refine hK _ ?_
        clear hK K'
        iterate 1 (refine ord_pure rfl rfl rfl (fun K' hK => ?_); go_big_quiet_op; refine hK _ ?_; clear hK K')
        refine ord_seals rfl rfl (fun K' hK => ?_)
        go_simp
        refine (qPush_any hT2.pull3 (hT2.et hB HE.out) next u).mono ?_
        rintro e w3 ⟨rfl, hS3⟩
        rw [HPC.out.1]
        refine hK (fun _ => True) _ _ trivial ?_
        clear hK K'
        go_simp
        iterate 1 (refine ord_pure rfl rfl rfl (fun K' hK => ?_); go_big_quiet_op; refine hK _ ?_; clear hK K')
        refine ord_nil ?_
        have c3 := eis_any 0 18 (by decide) w3
        rw [e0, show ((0 : Int) == 18) = false from rfl] at c3
        rw [HPC.out.2] at hS3
        clear hT2
        go_wp2_with fail
        refine c3.mono ?_
        rintro e wx ⟨rfl, rfl⟩
        clear c3
        have hT4 := hS3.drew
        have hT5 := hT4.pull3.alloc_ (.cells (itmC Fk.enc ⟨⟨name, a⟩, next, u⟩).toArray 180)
        obtain ⟨z, hz1, hz2, hz3⟩ := lfitem_zero
        obtain ⟨v9, w9, hr9, hA9⟩ := hT5.append (sz := 19) (m := 1) (news := itmC Fk.enc ⟨⟨name, a⟩, next, u⟩) (t := 176) (ty := 176) (P := Tryd.prog) (x := .slice (some ⟨wx.drew.heap.size, 0, none⟩) 1 1) Tryd.underlying176 hz1 hz3 (by decide) reads_new (by rw [itmC_length Fk.enc_length]) (itmC_one Fk.enc_one _) (by unfold maxLen; omega) (by omega)
        obtain ⟨A9, c9, rfl⟩ := hA9.arr_form
        obtain ⟨w10, hr10, hA10⟩ := one_store (o := 0) (ty := 176) (u := .slice A9 (R.length + 1) c9) hA9.pull3 (by kernel_rfl) (by simp) rfl rfl
        have d10 : w10.cell? ⟨t, 2, none⟩ = some (.int .i64 next) := cell_heap hA10.heap rfl
        obtain ⟨w11, hr11, hA11⟩ := one_store (o := 2) (ty := 3) (u := .int .i64 (next + 1)) hA10 (by kernel_rfl) (by simp) rfl rfl
        have hfin : Sat B w0 w11 (ftab t room (R ++ [⟨⟨name, a⟩, next, u⟩]) (next + 1) • F) := by
          refine Sat.tab_shut (v := .slice A9 (R.length + 1) c9) (q := q) HG2.out ?_
          rw [List.length_append, List.length_singleton, List.flatMap_append, List.flatMap_singleton]
          exact (hA11.to (by ac_rfl : _ = blk xb (.cells AE 63) • blk t (.cells ((#[Value.slice A R.length c, .pointer (some ⟨q, 0, none⟩), .int .i64 next].setIfInBounds 0 (.slice A9 (R.length + 1) c9)).setIfInBounds 2 (.int .i64 (next + 1))) 178) • arr 180 19 (.slice A9 (R.length + 1) c9) (R.length + 1) (R.flatMap (itmC Fk.enc) ++ itmC Fk.enc ⟨⟨name, a⟩, next, u⟩) • queue q room (ents (R ++ [⟨⟨name, a⟩, next, u⟩])) • F)).drop
        have HF := Lib.hid hfin
        have hC9 : wx.drew.cell? ⟨t, 0, none⟩ = some (.slice A R.length c) ∧ wx.drew.cell? ⟨t, 2, none⟩ = some (.int .i64 next) ∧ wx.drew.heap[xb]? = some (.cells AE 63) := ⟨cell_heap hT4.pull2.heap rfl, cell_heap hT4.pull2.heap rfl, hT4.pull4.heap⟩
        have hX5 := hT4.alloc_ (.cells (itmC Fk.enc ⟨⟨name, a⟩, next, u⟩).toArray 180)
        have hC10 : (wx.drew.alloc (.cells (itmC Fk.enc ⟨⟨name, a⟩, next, u⟩).toArray 180)).cell? ⟨t, 0, none⟩ = some (.slice A R.length c) ∧ (wx.drew.alloc (.cells (itmC Fk.enc ⟨⟨name, a⟩, next, u⟩).toArray 180)).cell? ⟨t, 2, none⟩ = some (.int .i64 next) ∧ (wx.drew.alloc (.cells (itmC Fk.enc ⟨⟨name, a⟩, next, u⟩).toArray 180)).heap[xb]? = some (.cells AE 63) := ⟨cell_heap hX5.pull2.heap rfl, cell_heap hX5.pull2.heap rfl, hX5.pull4.heap⟩
        have hil : (itmC Fk.enc ⟨⟨name, a⟩, next, u⟩).length = 19 := itmC_length Fk.enc_length _
        have HIL := Lib.hid hil
        clear hfin hA11 hA10 hA9 hT5 hT4 hS3 hX5 hil
        generalize itmC Fk.enc ⟨⟨name, a⟩, next, u⟩ = Y at *
        go_wp2_with fail
        try go_frame
        refine wp_region_ord [(0, .pure), (1, .pure), (2, .pure), (3, .pure), (4, .quiet), (5, .pure), (6, .quiet), (7, .pure), (8, .pure), (9, .pure), (10, .quiet), (11, .pure), (12, .acts), (13, .seals), (14, .pure), (15, .pure), (16, .seals)] (by kernel_rfl) (by kernel_rfl)
          (fun w' => w'.cell? ⟨t, 0, none⟩ = some (.slice A R.length c) ∧ w'.cell? ⟨t, 2, none⟩ = some (.int .i64 next) ∧ w'.heap[xb]? = some (.cells AE 63)) hC9 ?_
        iterate 4 (refine ord_pure rfl rfl rfl (fun K' hK => ?_); go_big_quiet_op; refine hK _ ?_; clear hK K')
        refine ord_load (t := 176) rfl rfl rfl (p := .pointer (some ⟨t, 0, none⟩)) (v := .slice A R.length c) rfl (fun w' hC => load_one Tryd.underlying176 rfl hC.1) (fun K' hK => ?_)
        go_simp
        refine hK _ ?_
        clear hK K'
        iterate 1 (refine ord_pure rfl rfl rfl (fun K' hK => ?_); go_big_quiet_op; refine hK _ ?_; clear hK K')
        refine ord_load (t := 63) rfl rfl rfl (p := .pointer (some ⟨xb, 0, none⟩)) (v := .agg AE) rfl (fun w' hC => HLA.out _ hC.2.2) (fun K' hK => ?_)
        go_simp
        refine hK _ ?_
        clear hK K'
        iterate 3 (refine ord_pure rfl rfl rfl (fun K' hK => ?_); go_big_quiet_op; refine hK _ ?_; clear hK K')
        refine ord_load (t := 3) rfl rfl rfl (p := .pointer (some ⟨t, 2, none⟩)) (v := .int .i64 next) rfl (fun w' hC => load_one Tryd.underlying3 rfl hC.2.1) (fun K' hK => ?_)
        go_simp
        refine hK _ ?_
        clear hK K'
        refine ord_run (v := .agg Y.toArray) rfl rfl (exec_build3 rfl (u := .string name) (v := .agg AE) (s := .int .i64 next) rfl rfl rfl HIB.out) (fun K' hK => ?_)
        go_simp
        refine hK _ ?_
        clear hK K'
        refine ord_acts rfl rfl (fun K' hK => wp_buildSlice_one (v := .agg Y.toArray) (sz := 19) rfl rfl Tryd.underlying176 hz2 (by simp [Value.cells, HIL.out]) (by decide) (by decide) (hK _ _ hC10 ?_))
        clear hK K'
        go_simp
        refine ord_seals rfl rfl (fun K' hK => wp_append_run _ _ _ rfl rfl rfl hr9 (hK (fun _ => True) _ _ trivial ?_))
        clear hK K'
        go_simp
        iterate 2 (refine ord_pure rfl rfl rfl (fun K' hK => ?_); go_big_quiet_op; refine hK _ ?_; clear hK K')
        refine ord_store rfl rfl rfl rfl (p := .pointer (some ⟨t, 0, none⟩)) (v := .slice A9 (R.length + 1) c9) rfl rfl hr10 (fun _ => True) trivial ?_
        refine ord_nil ?_
        go_wp2_with (refine wpList_store_run (t := 3) rfl rfl rfl rfl hr11 ?_)
        go_ret
        rw [HR.out.1, HR.out.2.1, HR.out.2.2]
        exact ⟨rfl, HF.out⟩
end
end Go.Proofs.YtepaanpdjadakaaDoor
