import Derived.Test.YtepaanpdjadakaaDoorExpB
import Derived.Test.YtepaanpdjadakaaDoorSameT
import Derived.Test.YtepaanpdjadakaaDoorSeq
import Derived.Deep.Cut
import Derived.Test.YtepaanpdjadakaaDoorFullW

/-! FlowsEnds' walk: kind 0, heard 0. -/
namespace Go.Proofs.YtepaanpdjadakaaDoor
open Go Go.RowKit

attribute [local irreducible] wpOrd
set_option maxRecDepth 8000 in
set_option maxHeartbeats 32000000 in
theorem ends26_00 (kd at0 ea0 : Int) (w : World) (ha : 0 ≤ at0 ∧ at0 ≤ 18446744073709551615) (he0 : 0 ≤ ea0 ∧ ea0 ≤ 18446744073709551615) (hE : Et w) (hm : wrap64 ((IntKind.u64.wrap kd).tmod 3) = 0) :
    Calls Tryd.prog 18 #[.int .i64 kd, .bool false, .int .u64 at0, .int .u64 ea0] w fun e w' => e = .returned (.bool true) ∧ Below w.heap.size w w' := by
  have e0 : errV 0 = .nilIface := rfl
  obtain ⟨at1, hat⟩ : ∃ at1, at1 = at0 % 1152921504606846976 := ⟨_, rfl⟩
  have hatb : 0 ≤ at1 ∧ at1 < 1152921504606846976 := by omega
  have htm : at0.tmod 1152921504606846976 = at1 := by rw [Int.tmod_eq_emod_of_nonneg ha.1, hat]
  have HTM := Lib.hid htm
  have HTM2 := Lib.hid hat.symm
  clear hat htm
  obtain ⟨ea, hea⟩ : ∃ ea, ea = ea0 % 30 := ⟨_, rfl⟩
  have heb : 0 ≤ ea ∧ ea < 30 := by omega
  have hte : ea0.tmod 30 = ea := by rw [Int.tmod_eq_emod_of_nonneg he0.1, hea]
  have HTE := Lib.hid hte
  have HTE2 := Lib.hid hea.symm
  clear hea hte
  have hw0 := fun W : World => way_any 0 W
  simp only [way0] at hw0
  have HW := Lib.hid hw0
  clear hw0
  obtain ⟨q0, hq0⟩ : ∃ q0, q0 = tupP 6 0 := ⟨_, rfl⟩
  have hp : q0.proto = 6 := by rw [hq0]; rfl
  have HP := Lib.hid hp
  rw [← hq0] at HW
  clear hp hq0
  have c1 := fun W : World => flNew_any 2 (Sat.start W)
  go_enter Tryd.func18, Tryd.ntmps18
  go_wp2_with fail
  try rw [hm]
  try rw [HTM.out]
  try rw [HTM2.out]
  have hS0 := (Sat.start w).alloc_ (.cells #[.int .i64 0, .int .i64 2, .int .i64 3] 3)
  refine (HW.out _).mono ?_
  rintro e w1 ⟨rfl, hb1⟩
  have hS1 := hS0.below_ hb1
  have hst := tup_store q0
  have hX := hS1.alloc (.cells q0.enc.toArray 121)
  have hld : ∀ W, W.heap[w1.heap.size]? = some (.cells q0.enc.toArray 121) → (Instr.loadAt 121 (.pointer (some ⟨w1.heap.size, 0, none⟩))).run Tryd.prog W = .ok (.agg q0.enc.toArray) W := fun W h => tupw_load h
  have HLD := Lib.hid hld
  obtain ⟨QE, hQE⟩ : ∃ QE, QE = q0.enc.toArray := ⟨_, rfl⟩
  rw [← hQE] at hst hX HLD ⊢
  have HQE := Lib.hid hQE
  generalize hbw : w1.heap.size = bw at *
  have HBW := Lib.hid hbw
  clear hS0 hb1 hS1 hld hQE hbw
  go_wp2_with (refine wpList_store_run (t := 121) rfl rfl rfl rfl (hst _ _ rfl) (stop_ ?_))
  unfold Stop
  try rw [HBW.out]
  have c2 := flNew_any 2 hX
  rw [show roomOf 2 = 2 by decide] at c2
  clear hX hst
  go_wp2_with fail
  refine c2.mono ?_
  rintro e w2 ⟨t, rfl, hS2⟩
  clear c2
  go_wp2_with fail
  refine (awake26_any _ (hS2.et hE.pos hE)).mono ?_
  rintro e w3 ⟨rfl, hb3⟩
  have hS3 := hS2.below_ hb3
  clear hS2 hb3
  have c4 := beg1 (q := q0) (flags := 2) (now := at1) hS3 hE.pos hE (by omega) (by omega) (by rw [HP.out]; decide)
  have hl4 := HLD.out _ hS3.pull2.heap
  rw [← HQE.out] at c4
  go_wp2_with (refine wpList_load_want (t := 121) rfl rfl rfl hl4 ?_)
  refine c4.mono ?_
  rintro e w4 ⟨p, rfl, hS4⟩
  clear c4 hl4 hS3
  have hph : begP q0 = ⟨1, 0⟩ ∧ begU q0 at1 = at1 + 30 := by
    have h1 : begP q0 = ⟨1, 0⟩ := by unfold begP; rw [HP.out]; rfl
    refine ⟨h1, ?_⟩
    unfold begU
    rw [h1, HP.out, show lastsF 6 1 = 30 by decide, aft_no (by omega)]
  rw [hph.1, hph.2] at hS4
  clear hph
  have hS5 := hS4.alloc_ (.cells #[.int .u64 30, .int .u64 30, .int .u64 30] 23)
  clear hS4
  have hSg := hS5
  clear hS5
  have c6 := get1 hSg
  have hl6 := HLD.out _ hSg.pull2.heap
  rw [← HQE.out] at c6
  go_wp2_with (refine wpList_load_run (t := 121) rfl rfl rfl hl6 ?_)
  refine c6.mono ?_
  rintro e w7 ⟨rfl, hS7⟩
  clear c6 hl6 hSg
  have hst := flw_storeN ⟨q0, 1, 0, at1 + 30⟩
  have hX := hS7.alloc (.cells (Flw.enc ⟨q0, 1, 0, at1 + 30⟩).toArray 126)
  have hdu : ∀ W : World, W.heap[w7.heap.size]? = some (.cells (Flw.enc ⟨q0, 1, 0, at1 + 30⟩).toArray 126) → W.cell? ⟨w7.heap.size, 39, none⟩ = some (.int .u64 (at1 + 30)) := fun W h => (flw_cells h).2.2
  have HDU := Lib.hid hdu
  generalize hFE : (Flw.enc ⟨q0, 1, 0, at1 + 30⟩).toArray = FE at *
  generalize hbf : w7.heap.size = bf at *
  have HBF := Lib.hid hbf
  clear hS7 hdu hFE hbf
  go_wp2_with (refine wpList_store_run (t := 126) rfl rfl rfl rfl (hst _ _ rfl) (stop_ ?_))
  unfold Stop
  try rw [HBF.out]
  clear hst
  have c8 := ex1_none hX.pull2 (now := at1 + ea) (by omega)
  clear hX
  go_wp2_with fail
  try rw [HTE.out]
  try rw [HTE2.out]
  refine c8.mono ?_
  rintro e w8 ⟨v8, rfl, hS8⟩
  obtain ⟨A8, c8', rfl⟩ := hS8.arr_form
  clear c8
  have c9 := ex1_one hS8.drop (now := at1 + 30) (by omega)
  clear hS8
  go_wp2_with fail
  refine c9.mono ?_
  rintro e w9 ⟨v9, rfl, hS9⟩
  clear c9
  obtain ⟨A9, c9', rfl⟩ := hS9.arr_form
  have c10 := flNew_any 2 hS9
  rw [show roomOf 2 = 2 by decide] at c10
  clear hS9
  go_wp2_with fail
  refine c10.mono ?_
  rintro e w10 ⟨z, rfl, hS10⟩
  clear c10
  have c11 := beg1 (q := q0) (flags := 2) (now := at1) hS10 hE.pos hE (by omega) (by omega) (by rw [HP.out]; decide)
  have hl11 := HLD.out _ hS10.drop.drop.drop.drop.heap
  rw [← HQE.out] at c11
  clear hS10
  go_wp2_with (refine wpList_load_run (t := 121) rfl rfl rfl hl11 ?_)
  refine c11.mono ?_
  rintro e w11 ⟨p2, rfl, hS11⟩
  clear c11 hl11
  rw [show begP q0 = ⟨1, 0⟩ by unfold begP; rw [HP.out]; rfl] at hS11
  have c12 := see1_yes (q := q0) (side := 1) (flags := 18) (now := at1) (ph' := ⟨2, 0⟩) (u' := at1 + 30) hS11 (by omega) (by omega) (by rw [HP.out]; decide) (by rw [HP.out, show lastsF 6 2 = 30 by decide, aft_no (by omega)])
  have hl12 := HLD.out _ hS11.drop.drop.drop.drop.heap
  rw [← HQE.out] at c12
  clear hS11
  go_wp2_with (refine wpList_load_run (t := 121) rfl rfl rfl hl12 ?_)
  refine c12.mono ?_
  rintro e w12 ⟨rfl, hS12⟩
  clear c12 hl12
  have c13 := see1_end (q := q0) (side := 0) (flags := 4) (now := at1) (ph' := ⟨2, 0⟩) hS12 (by omega) (by omega) (by rw [HP.out]; decide)
  have hl13 := HLD.out _ hS12.drop.drop.drop.drop.heap
  rw [← HQE.out] at c13
  clear hS12
  go_wp2_with (refine wpList_load_run (t := 121) rfl rfl rfl hl13 ?_)
  refine c13.mono ?_
  rintro e w13 ⟨rfl, hS13⟩
  clear c13 hl13
  have hb0 := Below.refl w13.heap.size w13
  have hry : RowsAt Tup.enc w13 (.slice A9 1 c9') [q0] := ⟨hS13.pull2.arr_reads, by show 1 ≤ maxLen; unfold maxLen; omega⟩
  have hdu : ∀ W, Below w13.heap.size w13 W → W.cell? ⟨bf, 39, none⟩ = some (.int .u64 (at1 + 30)) := fun W hB => HDU.out _ (hS13.below_ hB).drop.drop.drop.heap
  have hld : ∀ W, Below w13.heap.size w13 W → (Instr.loadAt 121 (.pointer (some ⟨bw, 0, none⟩))).run Tryd.prog W = .ok (.agg QE) W := fun W hB => HLD.out _ (hS13.below_ hB).drop.drop.drop.drop.heap
  have HQL : Hid ((Value.agg QE).cells.size = 37) := Lib.hid (by rw [HQE.out]; simp [Value.cells, Tup.enc_length])
  have HTI := Lib.hid tup_info2
  have hb14 : Below w13.heap.size w13 (w13.alloc (.cells (Value.agg QE).cells 121)) := hb0.alloc (Nat.le_refl _) _
  have hrx : RowsAt Tup.enc (w13.alloc (.cells (Value.agg QE).cells 121)) (.slice (some ⟨w13.heap.size, 0, none⟩) 1 1) [q0] := by
    rw [HQE.out]
    refine ⟨?_, by show 1 ≤ maxLen; unfold maxLen; omega⟩
    have := @reads_new w13 121 1 1 q0.enc
    simpa [Value.cells] using this
  have c15 := plainT_any [q0] [q0] _ _ _ (hry.below hb14) hrx
  rw [sameOf_refl eqD_refl] at c15
  have hc1 := fun (W : World) (hB : Below w13.heap.size w13 W) => flLen_any (hS13.below_ hB).pull3
  have hc2 := fun (W : World) (hB : Below w13.heap.size w13 W) => flLen_any (hS13.below_ hB)
  rw [show (([] : List FIt).length : Int) = 0 from rfl] at hc1
  rw [show (([] : List FIt).length : Int) = 0 from rfl] at hc2
  have HC1 := Lib.hid hc1
  have HC2 := Lib.hid hc2
  have HDU2 := Lib.hid hdu
  have HLD2 := Lib.hid hld
  have HBB := Lib.hid hS13.below
  have hle13 := hS13.le
  clear hry hdu hld hrx hc1 hc2 hS13
  go_upto_region 20 with (fail)
  refine wp_region_seq [(0, .pure), (1, .quiet), (2, .pure), (3, .pure), (4, .pure), (5, .pure), (6, .pure), (7, .pure), (8, .pure), (9, .pure), (10, .pure), (11, .pure), (12, .pure), (13, .quiet), (14, .acts), (15, .acts), (16, .pure), (17, .pure), (18, .pure), (19, .acts), (20, .pure), (21, .pure), (22, .pure), (23, .pure), (24, .pure), (25, .pure), (26, .pure), (27, .acts), (28, .pure), (29, .pure), (30, .pure), (31, .pure), (32, .pure), (33, .pure)] (by kernel_rfl)
    (fun w' => Below w13.heap.size w13 w') hb0 ?_
  iterate 1 (refine ord_pure rfl rfl rfl (fun K' hK => ?_); go_big_quiet_op; refine hK _ ?_; clear hK K')
  refine ord_load (t := 23) rfl rfl rfl (p := .pointer (some ⟨bf, 39, none⟩)) (v := .int .u64 (at1 + 30)) rfl (fun w' hC => load_one Tryd.underlying23 rfl (HDU2.out _ hC)) (fun K' hK => ?_)
  go_simp
  refine hK _ ?_
  clear hK K'
  iterate 11 (refine ord_pure rfl rfl rfl (fun K' hK => ?_); go_big_quiet_op; refine hK _ ?_; clear hK K')
  refine ord_load (t := 121) rfl rfl rfl (p := .pointer (some ⟨bw, 0, none⟩)) (v := .agg QE) rfl (fun w' hC => HLD2.out _ hC) (fun K' hK => ?_)
  go_simp
  refine hK _ ?_
  clear hK K'
  refine ord_acts rfl rfl (fun K' hK => wp_buildSlice_one (v := .agg QE) (sz := 37) rfl rfl Tryd.underlying134 HTI.out HQL.out (by decide) (by decide) (hK _ _ hb14 ?_))
  clear hK K'
  go_simp
  refine ord_acts rfl rfl (fun K' hK => ?_)
  go_simp
  refine (c15).mono ?_
  rintro e w15 ⟨rfl, hbx⟩
  have hb15 := hb14.trans (hbx.mono hb14.size)
  refine hK _ _ (hb15) ?_
  clear hK K'
  go_simp
  iterate 3 (refine ord_pure rfl rfl rfl (fun K' hK => ?_); go_big_quiet_op; refine hK _ ?_; clear hK K')
  refine ord_acts rfl rfl (fun K' hK => ?_)
  go_simp
  refine (HC1.out _ hb15).mono ?_
  rintro e wx ⟨rfl, rfl⟩
  refine hK _ _ (hb15) ?_
  clear hK K'
  go_simp
  iterate 7 (refine ord_pure rfl rfl rfl (fun K' hK => ?_); go_big_quiet_op; refine hK _ ?_; clear hK K')
  refine ord_acts rfl rfl (fun K' hK => ?_)
  go_simp
  refine (HC2.out _ hb15).mono ?_
  rintro e wx ⟨rfl, rfl⟩
  refine hK _ _ (hb15) ?_
  clear hK K'
  go_simp
  iterate 6 (refine ord_pure rfl rfl rfl (fun K' hK => ?_); go_big_quiet_op; refine hK _ ?_; clear hK K')
  refine ord_nil ?_
  go_wp2_with fail
  go_ret
  exact ⟨rfl, HBB.out.trans (hb15.mono hle13)⟩
end Go.Proofs.YtepaanpdjadakaaDoor

/-! FlowsEnds' walk: kind 0, heard 1. -/
namespace Go.Proofs.YtepaanpdjadakaaDoor
open Go Go.RowKit

attribute [local irreducible] wpOrd
set_option maxRecDepth 8000 in
set_option maxHeartbeats 32000000 in
theorem ends26_01 (kd at0 ea0 : Int) (w : World) (ha : 0 ≤ at0 ∧ at0 ≤ 18446744073709551615) (he0 : 0 ≤ ea0 ∧ ea0 ≤ 18446744073709551615) (hE : Et w) (hm : wrap64 ((IntKind.u64.wrap kd).tmod 3) = 0) :
    Calls Tryd.prog 18 #[.int .i64 kd, .bool true, .int .u64 at0, .int .u64 ea0] w fun e w' => e = .returned (.bool true) ∧ Below w.heap.size w w' := by
  have e0 : errV 0 = .nilIface := rfl
  obtain ⟨at1, hat⟩ : ∃ at1, at1 = at0 % 1152921504606846976 := ⟨_, rfl⟩
  have hatb : 0 ≤ at1 ∧ at1 < 1152921504606846976 := by omega
  have htm : at0.tmod 1152921504606846976 = at1 := by rw [Int.tmod_eq_emod_of_nonneg ha.1, hat]
  have HTM := Lib.hid htm
  have HTM2 := Lib.hid hat.symm
  clear hat htm
  obtain ⟨ea, hea⟩ : ∃ ea, ea = ea0 % 30 := ⟨_, rfl⟩
  have heb : 0 ≤ ea ∧ ea < 30 := by omega
  have hte : ea0.tmod 30 = ea := by rw [Int.tmod_eq_emod_of_nonneg he0.1, hea]
  have HTE := Lib.hid hte
  have HTE2 := Lib.hid hea.symm
  clear hea hte
  have hw0 := fun W : World => way_any 0 W
  simp only [way0] at hw0
  have HW := Lib.hid hw0
  clear hw0
  obtain ⟨q0, hq0⟩ : ∃ q0, q0 = tupP 6 0 := ⟨_, rfl⟩
  have hp : q0.proto = 6 := by rw [hq0]; rfl
  have HP := Lib.hid hp
  rw [← hq0] at HW
  clear hp hq0
  have c1 := fun W : World => flNew_any 2 (Sat.start W)
  go_enter Tryd.func18, Tryd.ntmps18
  go_wp2_with fail
  try rw [hm]
  try rw [HTM.out]
  try rw [HTM2.out]
  have hS0 := (Sat.start w).alloc_ (.cells #[.int .i64 0, .int .i64 2, .int .i64 3] 3)
  refine (HW.out _).mono ?_
  rintro e w1 ⟨rfl, hb1⟩
  have hS1 := hS0.below_ hb1
  have hst := tup_store q0
  have hX := hS1.alloc (.cells q0.enc.toArray 121)
  have hld : ∀ W, W.heap[w1.heap.size]? = some (.cells q0.enc.toArray 121) → (Instr.loadAt 121 (.pointer (some ⟨w1.heap.size, 0, none⟩))).run Tryd.prog W = .ok (.agg q0.enc.toArray) W := fun W h => tupw_load h
  have HLD := Lib.hid hld
  obtain ⟨QE, hQE⟩ : ∃ QE, QE = q0.enc.toArray := ⟨_, rfl⟩
  rw [← hQE] at hst hX HLD ⊢
  have HQE := Lib.hid hQE
  generalize hbw : w1.heap.size = bw at *
  have HBW := Lib.hid hbw
  clear hS0 hb1 hS1 hld hQE hbw
  go_wp2_with (refine wpList_store_run (t := 121) rfl rfl rfl rfl (hst _ _ rfl) (stop_ ?_))
  unfold Stop
  try rw [HBW.out]
  have c2 := flNew_any 2 hX
  rw [show roomOf 2 = 2 by decide] at c2
  clear hX hst
  go_wp2_with fail
  refine c2.mono ?_
  rintro e w2 ⟨t, rfl, hS2⟩
  clear c2
  go_wp2_with fail
  refine (awake26_any _ (hS2.et hE.pos hE)).mono ?_
  rintro e w3 ⟨rfl, hb3⟩
  have hS3 := hS2.below_ hb3
  clear hS2 hb3
  have c4 := beg1 (q := q0) (flags := 2) (now := at1) hS3 hE.pos hE (by omega) (by omega) (by rw [HP.out]; decide)
  have hl4 := HLD.out _ hS3.pull2.heap
  rw [← HQE.out] at c4
  go_wp2_with (refine wpList_load_want (t := 121) rfl rfl rfl hl4 ?_)
  refine c4.mono ?_
  rintro e w4 ⟨p, rfl, hS4⟩
  clear c4 hl4 hS3
  have hph : begP q0 = ⟨1, 0⟩ ∧ begU q0 at1 = at1 + 30 := by
    have h1 : begP q0 = ⟨1, 0⟩ := by unfold begP; rw [HP.out]; rfl
    refine ⟨h1, ?_⟩
    unfold begU
    rw [h1, HP.out, show lastsF 6 1 = 30 by decide, aft_no (by omega)]
  rw [hph.1, hph.2] at hS4
  clear hph
  have hS5 := hS4.alloc_ (.cells #[.int .u64 30, .int .u64 30, .int .u64 30] 23)
  clear hS4
  have c5 := see1_yes (q := q0) (side := 1) (flags := 18) (now := at1) (ph' := ⟨2, 0⟩) (u' := at1 + 30) hS5 (by omega) (by omega) (by rw [HP.out]; decide) (by rw [HP.out, show lastsF 6 2 = 30 by decide, aft_no (by omega)])
  have hl5 := HLD.out _ hS5.pull2.heap
  rw [← HQE.out] at c5
  clear hS5
  go_wp2_with (refine wpList_load_run (t := 121) rfl rfl rfl hl5 ?_)
  refine c5.mono ?_
  rintro e w6 ⟨rfl, hS6⟩
  clear c5 hl5
  have hSg := hS6.alloc_ (.cells #[.int .u64 30, .int .u64 180, .int .u64 30] 23)
  clear hS6
  have c6 := get1 hSg
  have hl6 := HLD.out _ hSg.pull2.heap
  rw [← HQE.out] at c6
  go_wp2_with (refine wpList_load_run (t := 121) rfl rfl rfl hl6 ?_)
  refine c6.mono ?_
  rintro e w7 ⟨rfl, hS7⟩
  clear c6 hl6 hSg
  have hst := flw_storeN ⟨q0, 2, 0, at1 + 30⟩
  have hX := hS7.alloc (.cells (Flw.enc ⟨q0, 2, 0, at1 + 30⟩).toArray 126)
  have hdu : ∀ W : World, W.heap[w7.heap.size]? = some (.cells (Flw.enc ⟨q0, 2, 0, at1 + 30⟩).toArray 126) → W.cell? ⟨w7.heap.size, 39, none⟩ = some (.int .u64 (at1 + 30)) := fun W h => (flw_cells h).2.2
  have HDU := Lib.hid hdu
  generalize hFE : (Flw.enc ⟨q0, 2, 0, at1 + 30⟩).toArray = FE at *
  generalize hbf : w7.heap.size = bf at *
  have HBF := Lib.hid hbf
  clear hS7 hdu hFE hbf
  go_wp2_with (refine wpList_store_run (t := 126) rfl rfl rfl rfl (hst _ _ rfl) (stop_ ?_))
  unfold Stop
  try rw [HBF.out]
  clear hst
  have c8 := ex1_none hX.pull2 (now := at1 + ea) (by omega)
  clear hX
  go_wp2_with fail
  try rw [HTE.out]
  try rw [HTE2.out]
  refine c8.mono ?_
  rintro e w8 ⟨v8, rfl, hS8⟩
  obtain ⟨A8, c8', rfl⟩ := hS8.arr_form
  clear c8
  have c9 := ex1_one hS8.drop (now := at1 + 30) (by omega)
  clear hS8
  go_wp2_with fail
  refine c9.mono ?_
  rintro e w9 ⟨v9, rfl, hS9⟩
  clear c9
  obtain ⟨A9, c9', rfl⟩ := hS9.arr_form
  have c10 := flNew_any 2 hS9
  rw [show roomOf 2 = 2 by decide] at c10
  clear hS9
  go_wp2_with fail
  refine c10.mono ?_
  rintro e w10 ⟨z, rfl, hS10⟩
  clear c10
  have c11 := beg1 (q := q0) (flags := 2) (now := at1) hS10 hE.pos hE (by omega) (by omega) (by rw [HP.out]; decide)
  have hl11 := HLD.out _ hS10.drop.drop.drop.drop.heap
  rw [← HQE.out] at c11
  clear hS10
  go_wp2_with (refine wpList_load_run (t := 121) rfl rfl rfl hl11 ?_)
  refine c11.mono ?_
  rintro e w11 ⟨p2, rfl, hS11⟩
  clear c11 hl11
  rw [show begP q0 = ⟨1, 0⟩ by unfold begP; rw [HP.out]; rfl] at hS11
  have c12 := see1_yes (q := q0) (side := 1) (flags := 18) (now := at1) (ph' := ⟨2, 0⟩) (u' := at1 + 30) hS11 (by omega) (by omega) (by rw [HP.out]; decide) (by rw [HP.out, show lastsF 6 2 = 30 by decide, aft_no (by omega)])
  have hl12 := HLD.out _ hS11.drop.drop.drop.drop.heap
  rw [← HQE.out] at c12
  clear hS11
  go_wp2_with (refine wpList_load_run (t := 121) rfl rfl rfl hl12 ?_)
  refine c12.mono ?_
  rintro e w12 ⟨rfl, hS12⟩
  clear c12 hl12
  have c13 := see1_end (q := q0) (side := 0) (flags := 4) (now := at1) (ph' := ⟨2, 0⟩) hS12 (by omega) (by omega) (by rw [HP.out]; decide)
  have hl13 := HLD.out _ hS12.drop.drop.drop.drop.heap
  rw [← HQE.out] at c13
  clear hS12
  go_wp2_with (refine wpList_load_run (t := 121) rfl rfl rfl hl13 ?_)
  refine c13.mono ?_
  rintro e w13 ⟨rfl, hS13⟩
  clear c13 hl13
  have hb0 := Below.refl w13.heap.size w13
  have hry : RowsAt Tup.enc w13 (.slice A9 1 c9') [q0] := ⟨hS13.pull2.arr_reads, by show 1 ≤ maxLen; unfold maxLen; omega⟩
  have hdu : ∀ W, Below w13.heap.size w13 W → W.cell? ⟨bf, 39, none⟩ = some (.int .u64 (at1 + 30)) := fun W hB => HDU.out _ (hS13.below_ hB).drop.drop.drop.heap
  have hld : ∀ W, Below w13.heap.size w13 W → (Instr.loadAt 121 (.pointer (some ⟨bw, 0, none⟩))).run Tryd.prog W = .ok (.agg QE) W := fun W hB => HLD.out _ (hS13.below_ hB).drop.drop.drop.drop.heap
  have HQL : Hid ((Value.agg QE).cells.size = 37) := Lib.hid (by rw [HQE.out]; simp [Value.cells, Tup.enc_length])
  have HTI := Lib.hid tup_info2
  have hb14 : Below w13.heap.size w13 (w13.alloc (.cells (Value.agg QE).cells 121)) := hb0.alloc (Nat.le_refl _) _
  have hrx : RowsAt Tup.enc (w13.alloc (.cells (Value.agg QE).cells 121)) (.slice (some ⟨w13.heap.size, 0, none⟩) 1 1) [q0] := by
    rw [HQE.out]
    refine ⟨?_, by show 1 ≤ maxLen; unfold maxLen; omega⟩
    have := @reads_new w13 121 1 1 q0.enc
    simpa [Value.cells] using this
  have c15 := plainT_any [q0] [q0] _ _ _ (hry.below hb14) hrx
  rw [sameOf_refl eqD_refl] at c15
  have hc1 := fun (W : World) (hB : Below w13.heap.size w13 W) => flLen_any (hS13.below_ hB).pull3
  have hc2 := fun (W : World) (hB : Below w13.heap.size w13 W) => flLen_any (hS13.below_ hB)
  rw [show (([] : List FIt).length : Int) = 0 from rfl] at hc1
  rw [show (([] : List FIt).length : Int) = 0 from rfl] at hc2
  have HC1 := Lib.hid hc1
  have HC2 := Lib.hid hc2
  have HDU2 := Lib.hid hdu
  have HLD2 := Lib.hid hld
  have HBB := Lib.hid hS13.below
  have hle13 := hS13.le
  clear hry hdu hld hrx hc1 hc2 hS13
  go_upto_region 20 with (fail)
  refine wp_region_seq [(0, .pure), (1, .quiet), (2, .pure), (3, .pure), (4, .pure), (5, .pure), (6, .pure), (7, .pure), (8, .pure), (9, .pure), (10, .pure), (11, .pure), (12, .pure), (13, .quiet), (14, .acts), (15, .acts), (16, .pure), (17, .pure), (18, .pure), (19, .acts), (20, .pure), (21, .pure), (22, .pure), (23, .pure), (24, .pure), (25, .pure), (26, .pure), (27, .acts), (28, .pure), (29, .pure), (30, .pure), (31, .pure), (32, .pure), (33, .pure)] (by kernel_rfl)
    (fun w' => Below w13.heap.size w13 w') hb0 ?_
  iterate 1 (refine ord_pure rfl rfl rfl (fun K' hK => ?_); go_big_quiet_op; refine hK _ ?_; clear hK K')
  refine ord_load (t := 23) rfl rfl rfl (p := .pointer (some ⟨bf, 39, none⟩)) (v := .int .u64 (at1 + 30)) rfl (fun w' hC => load_one Tryd.underlying23 rfl (HDU2.out _ hC)) (fun K' hK => ?_)
  go_simp
  refine hK _ ?_
  clear hK K'
  iterate 11 (refine ord_pure rfl rfl rfl (fun K' hK => ?_); go_big_quiet_op; refine hK _ ?_; clear hK K')
  refine ord_load (t := 121) rfl rfl rfl (p := .pointer (some ⟨bw, 0, none⟩)) (v := .agg QE) rfl (fun w' hC => HLD2.out _ hC) (fun K' hK => ?_)
  go_simp
  refine hK _ ?_
  clear hK K'
  refine ord_acts rfl rfl (fun K' hK => wp_buildSlice_one (v := .agg QE) (sz := 37) rfl rfl Tryd.underlying134 HTI.out HQL.out (by decide) (by decide) (hK _ _ hb14 ?_))
  clear hK K'
  go_simp
  refine ord_acts rfl rfl (fun K' hK => ?_)
  go_simp
  refine (c15).mono ?_
  rintro e w15 ⟨rfl, hbx⟩
  have hb15 := hb14.trans (hbx.mono hb14.size)
  refine hK _ _ (hb15) ?_
  clear hK K'
  go_simp
  iterate 3 (refine ord_pure rfl rfl rfl (fun K' hK => ?_); go_big_quiet_op; refine hK _ ?_; clear hK K')
  refine ord_acts rfl rfl (fun K' hK => ?_)
  go_simp
  refine (HC1.out _ hb15).mono ?_
  rintro e wx ⟨rfl, rfl⟩
  refine hK _ _ (hb15) ?_
  clear hK K'
  go_simp
  iterate 7 (refine ord_pure rfl rfl rfl (fun K' hK => ?_); go_big_quiet_op; refine hK _ ?_; clear hK K')
  refine ord_acts rfl rfl (fun K' hK => ?_)
  go_simp
  refine (HC2.out _ hb15).mono ?_
  rintro e wx ⟨rfl, rfl⟩
  refine hK _ _ (hb15) ?_
  clear hK K'
  go_simp
  iterate 6 (refine ord_pure rfl rfl rfl (fun K' hK => ?_); go_big_quiet_op; refine hK _ ?_; clear hK K')
  refine ord_nil ?_
  go_wp2_with fail
  go_ret
  exact ⟨rfl, HBB.out.trans (hb15.mono hle13)⟩
end Go.Proofs.YtepaanpdjadakaaDoor

/-! FlowsEnds' walk: kind 1, heard 0. -/
namespace Go.Proofs.YtepaanpdjadakaaDoor
open Go Go.RowKit

attribute [local irreducible] wpOrd
set_option maxRecDepth 8000 in
set_option maxHeartbeats 32000000 in
theorem ends26_10 (kd at0 ea0 : Int) (w : World) (ha : 0 ≤ at0 ∧ at0 ≤ 18446744073709551615) (he0 : 0 ≤ ea0 ∧ ea0 ≤ 18446744073709551615) (hE : Et w) (hm : wrap64 ((IntKind.u64.wrap kd).tmod 3) = 1) :
    Calls Tryd.prog 18 #[.int .i64 kd, .bool false, .int .u64 at0, .int .u64 ea0] w fun e w' => e = .returned (.bool true) ∧ Below w.heap.size w w' := by
  have e0 : errV 0 = .nilIface := rfl
  obtain ⟨at1, hat⟩ : ∃ at1, at1 = at0 % 1152921504606846976 := ⟨_, rfl⟩
  have hatb : 0 ≤ at1 ∧ at1 < 1152921504606846976 := by omega
  have htm : at0.tmod 1152921504606846976 = at1 := by rw [Int.tmod_eq_emod_of_nonneg ha.1, hat]
  have HTM := Lib.hid htm
  have HTM2 := Lib.hid hat.symm
  clear hat htm
  obtain ⟨ea, hea⟩ : ∃ ea, ea = ea0 % 30 := ⟨_, rfl⟩
  have heb : 0 ≤ ea ∧ ea < 30 := by omega
  have hte : ea0.tmod 30 = ea := by rw [Int.tmod_eq_emod_of_nonneg he0.1, hea]
  have HTE := Lib.hid hte
  have HTE2 := Lib.hid hea.symm
  clear hea hte
  have hw0 := fun W : World => way_any 2 W
  simp only [way2] at hw0
  have HW := Lib.hid hw0
  clear hw0
  obtain ⟨q0, hq0⟩ : ∃ q0, q0 = tupP 17 0 := ⟨_, rfl⟩
  have hp : q0.proto = 17 := by rw [hq0]; rfl
  have HP := Lib.hid hp
  rw [← hq0] at HW
  clear hp hq0
  have c1 := fun W : World => flNew_any 2 (Sat.start W)
  go_enter Tryd.func18, Tryd.ntmps18
  go_wp2_with fail
  try rw [hm]
  try rw [HTM.out]
  try rw [HTM2.out]
  have hS0 := (Sat.start w).alloc_ (.cells #[.int .i64 0, .int .i64 2, .int .i64 3] 3)
  refine (HW.out _).mono ?_
  rintro e w1 ⟨rfl, hb1⟩
  have hS1 := hS0.below_ hb1
  have hst := tup_store q0
  have hX := hS1.alloc (.cells q0.enc.toArray 121)
  have hld : ∀ W, W.heap[w1.heap.size]? = some (.cells q0.enc.toArray 121) → (Instr.loadAt 121 (.pointer (some ⟨w1.heap.size, 0, none⟩))).run Tryd.prog W = .ok (.agg q0.enc.toArray) W := fun W h => tupw_load h
  have HLD := Lib.hid hld
  obtain ⟨QE, hQE⟩ : ∃ QE, QE = q0.enc.toArray := ⟨_, rfl⟩
  rw [← hQE] at hst hX HLD ⊢
  have HQE := Lib.hid hQE
  generalize hbw : w1.heap.size = bw at *
  have HBW := Lib.hid hbw
  clear hS0 hb1 hS1 hld hQE hbw
  go_wp2_with (refine wpList_store_run (t := 121) rfl rfl rfl rfl (hst _ _ rfl) (stop_ ?_))
  unfold Stop
  try rw [HBW.out]
  have c2 := flNew_any 2 hX
  rw [show roomOf 2 = 2 by decide] at c2
  clear hX hst
  go_wp2_with fail
  refine c2.mono ?_
  rintro e w2 ⟨t, rfl, hS2⟩
  clear c2
  go_wp2_with fail
  refine (awake26_any _ (hS2.et hE.pos hE)).mono ?_
  rintro e w3 ⟨rfl, hb3⟩
  have hS3 := hS2.below_ hb3
  clear hS2 hb3
  have c4 := beg1 (q := q0) (flags := 2) (now := at1) hS3 hE.pos hE (by omega) (by omega) (by rw [HP.out]; decide)
  have hl4 := HLD.out _ hS3.pull2.heap
  rw [← HQE.out] at c4
  go_wp2_with (refine wpList_load_want (t := 121) rfl rfl rfl hl4 ?_)
  refine c4.mono ?_
  rintro e w4 ⟨p, rfl, hS4⟩
  clear c4 hl4 hS3
  have hph : begP q0 = ⟨6, 0⟩ ∧ begU q0 at1 = at1 + 30 := by
    have h1 : begP q0 = ⟨6, 0⟩ := by unfold begP; rw [HP.out]; rfl
    refine ⟨h1, ?_⟩
    unfold begU
    rw [h1, HP.out, show lastsF 17 6 = 30 by decide, aft_no (by omega)]
  rw [hph.1, hph.2] at hS4
  clear hph
  have hS5 := hS4.alloc_ (.cells #[.int .u64 30, .int .u64 30, .int .u64 30] 23)
  clear hS4
  have hSg := hS5
  clear hS5
  have c6 := get1 hSg
  have hl6 := HLD.out _ hSg.pull2.heap
  rw [← HQE.out] at c6
  go_wp2_with (refine wpList_load_run (t := 121) rfl rfl rfl hl6 ?_)
  refine c6.mono ?_
  rintro e w7 ⟨rfl, hS7⟩
  clear c6 hl6 hSg
  have hst := flw_storeN ⟨q0, 6, 0, at1 + 30⟩
  have hX := hS7.alloc (.cells (Flw.enc ⟨q0, 6, 0, at1 + 30⟩).toArray 126)
  have hdu : ∀ W : World, W.heap[w7.heap.size]? = some (.cells (Flw.enc ⟨q0, 6, 0, at1 + 30⟩).toArray 126) → W.cell? ⟨w7.heap.size, 39, none⟩ = some (.int .u64 (at1 + 30)) := fun W h => (flw_cells h).2.2
  have HDU := Lib.hid hdu
  generalize hFE : (Flw.enc ⟨q0, 6, 0, at1 + 30⟩).toArray = FE at *
  generalize hbf : w7.heap.size = bf at *
  have HBF := Lib.hid hbf
  clear hS7 hdu hFE hbf
  go_wp2_with (refine wpList_store_run (t := 126) rfl rfl rfl rfl (hst _ _ rfl) (stop_ ?_))
  unfold Stop
  try rw [HBF.out]
  clear hst
  have c8 := ex1_none hX.pull2 (now := at1 + ea) (by omega)
  clear hX
  go_wp2_with fail
  try rw [HTE.out]
  try rw [HTE2.out]
  refine c8.mono ?_
  rintro e w8 ⟨v8, rfl, hS8⟩
  obtain ⟨A8, c8', rfl⟩ := hS8.arr_form
  clear c8
  have c9 := ex1_one hS8.drop (now := at1 + 30) (by omega)
  clear hS8
  go_wp2_with fail
  refine c9.mono ?_
  rintro e w9 ⟨v9, rfl, hS9⟩
  clear c9
  obtain ⟨A9, c9', rfl⟩ := hS9.arr_form
  have c10 := flNew_any 2 hS9
  rw [show roomOf 2 = 2 by decide] at c10
  clear hS9
  go_wp2_with fail
  refine c10.mono ?_
  rintro e w10 ⟨z, rfl, hS10⟩
  clear c10
  have c11 := beg1 (q := q0) (flags := 2) (now := at1) hS10 hE.pos hE (by omega) (by omega) (by rw [HP.out]; decide)
  have hl11 := HLD.out _ hS10.drop.drop.drop.drop.heap
  rw [← HQE.out] at c11
  clear hS10
  go_wp2_with (refine wpList_load_run (t := 121) rfl rfl rfl hl11 ?_)
  refine c11.mono ?_
  rintro e w11 ⟨p2, rfl, hS11⟩
  clear c11 hl11
  rw [show begP q0 = ⟨6, 0⟩ by unfold begP; rw [HP.out]; rfl] at hS11
  have c12 := see1_yes (q := q0) (side := 1) (flags := 18) (now := at1) (ph' := ⟨7, 0⟩) (u' := at1 + 180) hS11 (by omega) (by omega) (by rw [HP.out]; decide) (by rw [HP.out, show lastsF 17 7 = 180 by decide, aft_no (by omega)])
  have hl12 := HLD.out _ hS11.drop.drop.drop.drop.heap
  rw [← HQE.out] at c12
  clear hS11
  go_wp2_with (refine wpList_load_run (t := 121) rfl rfl rfl hl12 ?_)
  refine c12.mono ?_
  rintro e w12 ⟨rfl, hS12⟩
  clear c12 hl12
  have c13 := see1_yes (q := q0) (side := 0) (flags := 4) (now := at1) (ph' := ⟨7, 0⟩) (u' := at1 + 180) hS12 (by omega) (by omega) (by rw [HP.out]; decide) (by rw [HP.out, show lastsF 17 7 = 180 by decide, aft_no (by omega)])
  have hl13 := HLD.out _ hS12.drop.drop.drop.drop.heap
  rw [← HQE.out] at c13
  clear hS12
  go_wp2_with (refine wpList_load_run (t := 121) rfl rfl rfl hl13 ?_)
  refine c13.mono ?_
  rintro e w13 ⟨rfl, hS13⟩
  clear c13 hl13
  have hb0 := Below.refl w13.heap.size w13
  have hry : RowsAt Tup.enc w13 (.slice A9 1 c9') [q0] := ⟨hS13.pull2.arr_reads, by show 1 ≤ maxLen; unfold maxLen; omega⟩
  have hdu : ∀ W, Below w13.heap.size w13 W → W.cell? ⟨bf, 39, none⟩ = some (.int .u64 (at1 + 30)) := fun W hB => HDU.out _ (hS13.below_ hB).drop.drop.drop.heap
  have hld : ∀ W, Below w13.heap.size w13 W → (Instr.loadAt 121 (.pointer (some ⟨bw, 0, none⟩))).run Tryd.prog W = .ok (.agg QE) W := fun W hB => HLD.out _ (hS13.below_ hB).drop.drop.drop.drop.heap
  have HQL : Hid ((Value.agg QE).cells.size = 37) := Lib.hid (by rw [HQE.out]; simp [Value.cells, Tup.enc_length])
  have HTI := Lib.hid tup_info2
  have hb14 : Below w13.heap.size w13 (w13.alloc (.cells (Value.agg QE).cells 121)) := hb0.alloc (Nat.le_refl _) _
  have hrx : RowsAt Tup.enc (w13.alloc (.cells (Value.agg QE).cells 121)) (.slice (some ⟨w13.heap.size, 0, none⟩) 1 1) [q0] := by
    rw [HQE.out]
    refine ⟨?_, by show 1 ≤ maxLen; unfold maxLen; omega⟩
    have := @reads_new w13 121 1 1 q0.enc
    simpa [Value.cells] using this
  have c15 := plainT_any [q0] [q0] _ _ _ (hry.below hb14) hrx
  rw [sameOf_refl eqD_refl] at c15
  have hc1 := fun (W : World) (hB : Below w13.heap.size w13 W) => flLen_any (hS13.below_ hB).pull3
  have hc2 := fun (W : World) (hB : Below w13.heap.size w13 W) => flLen_any (hS13.below_ hB)
  rw [show (([] : List FIt).length : Int) = 0 from rfl] at hc1
  rw [show ((oneR p2 q0 ⟨7, 0⟩ (at1 + 180) : List FIt).length : Int) = 1 from rfl] at hc2
  have HC1 := Lib.hid hc1
  have HC2 := Lib.hid hc2
  have HDU2 := Lib.hid hdu
  have HLD2 := Lib.hid hld
  have HBB := Lib.hid hS13.below
  have hle13 := hS13.le
  clear hry hdu hld hrx hc1 hc2 hS13
  go_upto_region 20 with (fail)
  refine wp_region_seq [(0, .pure), (1, .quiet), (2, .pure), (3, .pure), (4, .pure), (5, .pure), (6, .pure), (7, .pure), (8, .pure), (9, .pure), (10, .pure), (11, .pure), (12, .pure), (13, .quiet), (14, .acts), (15, .acts), (16, .pure), (17, .pure), (18, .pure), (19, .acts), (20, .pure), (21, .pure), (22, .pure), (23, .pure), (24, .pure), (25, .pure), (26, .pure), (27, .acts), (28, .pure), (29, .pure), (30, .pure), (31, .pure), (32, .pure), (33, .pure)] (by kernel_rfl)
    (fun w' => Below w13.heap.size w13 w') hb0 ?_
  iterate 1 (refine ord_pure rfl rfl rfl (fun K' hK => ?_); go_big_quiet_op; refine hK _ ?_; clear hK K')
  refine ord_load (t := 23) rfl rfl rfl (p := .pointer (some ⟨bf, 39, none⟩)) (v := .int .u64 (at1 + 30)) rfl (fun w' hC => load_one Tryd.underlying23 rfl (HDU2.out _ hC)) (fun K' hK => ?_)
  go_simp
  refine hK _ ?_
  clear hK K'
  iterate 11 (refine ord_pure rfl rfl rfl (fun K' hK => ?_); go_big_quiet_op; refine hK _ ?_; clear hK K')
  refine ord_load (t := 121) rfl rfl rfl (p := .pointer (some ⟨bw, 0, none⟩)) (v := .agg QE) rfl (fun w' hC => HLD2.out _ hC) (fun K' hK => ?_)
  go_simp
  refine hK _ ?_
  clear hK K'
  refine ord_acts rfl rfl (fun K' hK => wp_buildSlice_one (v := .agg QE) (sz := 37) rfl rfl Tryd.underlying134 HTI.out HQL.out (by decide) (by decide) (hK _ _ hb14 ?_))
  clear hK K'
  go_simp
  refine ord_acts rfl rfl (fun K' hK => ?_)
  go_simp
  refine (c15).mono ?_
  rintro e w15 ⟨rfl, hbx⟩
  have hb15 := hb14.trans (hbx.mono hb14.size)
  refine hK _ _ (hb15) ?_
  clear hK K'
  go_simp
  iterate 3 (refine ord_pure rfl rfl rfl (fun K' hK => ?_); go_big_quiet_op; refine hK _ ?_; clear hK K')
  refine ord_acts rfl rfl (fun K' hK => ?_)
  go_simp
  refine (HC1.out _ hb15).mono ?_
  rintro e wx ⟨rfl, rfl⟩
  refine hK _ _ (hb15) ?_
  clear hK K'
  go_simp
  iterate 7 (refine ord_pure rfl rfl rfl (fun K' hK => ?_); go_big_quiet_op; refine hK _ ?_; clear hK K')
  refine ord_acts rfl rfl (fun K' hK => ?_)
  go_simp
  refine (HC2.out _ hb15).mono ?_
  rintro e wx ⟨rfl, rfl⟩
  refine hK _ _ (hb15) ?_
  clear hK K'
  go_simp
  iterate 6 (refine ord_pure rfl rfl rfl (fun K' hK => ?_); go_big_quiet_op; refine hK _ ?_; clear hK K')
  refine ord_nil ?_
  go_wp2_with fail
  go_ret
  exact ⟨rfl, HBB.out.trans (hb15.mono hle13)⟩
end Go.Proofs.YtepaanpdjadakaaDoor

/-! FlowsEnds' walk: kind 1, heard 1. -/
namespace Go.Proofs.YtepaanpdjadakaaDoor
open Go Go.RowKit

attribute [local irreducible] wpOrd
set_option maxRecDepth 8000 in
set_option maxHeartbeats 32000000 in
theorem ends26_11 (kd at0 ea0 : Int) (w : World) (ha : 0 ≤ at0 ∧ at0 ≤ 18446744073709551615) (he0 : 0 ≤ ea0 ∧ ea0 ≤ 18446744073709551615) (hE : Et w) (hm : wrap64 ((IntKind.u64.wrap kd).tmod 3) = 1) :
    Calls Tryd.prog 18 #[.int .i64 kd, .bool true, .int .u64 at0, .int .u64 ea0] w fun e w' => e = .returned (.bool true) ∧ Below w.heap.size w w' := by
  have e0 : errV 0 = .nilIface := rfl
  obtain ⟨at1, hat⟩ : ∃ at1, at1 = at0 % 1152921504606846976 := ⟨_, rfl⟩
  have hatb : 0 ≤ at1 ∧ at1 < 1152921504606846976 := by omega
  have htm : at0.tmod 1152921504606846976 = at1 := by rw [Int.tmod_eq_emod_of_nonneg ha.1, hat]
  have HTM := Lib.hid htm
  have HTM2 := Lib.hid hat.symm
  clear hat htm
  obtain ⟨ea, hea⟩ : ∃ ea, ea = ea0 % 180 := ⟨_, rfl⟩
  have heb : 0 ≤ ea ∧ ea < 180 := by omega
  have hte : ea0.tmod 180 = ea := by rw [Int.tmod_eq_emod_of_nonneg he0.1, hea]
  have HTE := Lib.hid hte
  have HTE2 := Lib.hid hea.symm
  clear hea hte
  have hw0 := fun W : World => way_any 2 W
  simp only [way2] at hw0
  have HW := Lib.hid hw0
  clear hw0
  obtain ⟨q0, hq0⟩ : ∃ q0, q0 = tupP 17 0 := ⟨_, rfl⟩
  have hp : q0.proto = 17 := by rw [hq0]; rfl
  have HP := Lib.hid hp
  rw [← hq0] at HW
  clear hp hq0
  have c1 := fun W : World => flNew_any 2 (Sat.start W)
  go_enter Tryd.func18, Tryd.ntmps18
  go_wp2_with fail
  try rw [hm]
  try rw [HTM.out]
  try rw [HTM2.out]
  have hS0 := (Sat.start w).alloc_ (.cells #[.int .i64 0, .int .i64 2, .int .i64 3] 3)
  refine (HW.out _).mono ?_
  rintro e w1 ⟨rfl, hb1⟩
  have hS1 := hS0.below_ hb1
  have hst := tup_store q0
  have hX := hS1.alloc (.cells q0.enc.toArray 121)
  have hld : ∀ W, W.heap[w1.heap.size]? = some (.cells q0.enc.toArray 121) → (Instr.loadAt 121 (.pointer (some ⟨w1.heap.size, 0, none⟩))).run Tryd.prog W = .ok (.agg q0.enc.toArray) W := fun W h => tupw_load h
  have HLD := Lib.hid hld
  obtain ⟨QE, hQE⟩ : ∃ QE, QE = q0.enc.toArray := ⟨_, rfl⟩
  rw [← hQE] at hst hX HLD ⊢
  have HQE := Lib.hid hQE
  generalize hbw : w1.heap.size = bw at *
  have HBW := Lib.hid hbw
  clear hS0 hb1 hS1 hld hQE hbw
  go_wp2_with (refine wpList_store_run (t := 121) rfl rfl rfl rfl (hst _ _ rfl) (stop_ ?_))
  unfold Stop
  try rw [HBW.out]
  have c2 := flNew_any 2 hX
  rw [show roomOf 2 = 2 by decide] at c2
  clear hX hst
  go_wp2_with fail
  refine c2.mono ?_
  rintro e w2 ⟨t, rfl, hS2⟩
  clear c2
  go_wp2_with fail
  refine (awake26_any _ (hS2.et hE.pos hE)).mono ?_
  rintro e w3 ⟨rfl, hb3⟩
  have hS3 := hS2.below_ hb3
  clear hS2 hb3
  have c4 := beg1 (q := q0) (flags := 2) (now := at1) hS3 hE.pos hE (by omega) (by omega) (by rw [HP.out]; decide)
  have hl4 := HLD.out _ hS3.pull2.heap
  rw [← HQE.out] at c4
  go_wp2_with (refine wpList_load_want (t := 121) rfl rfl rfl hl4 ?_)
  refine c4.mono ?_
  rintro e w4 ⟨p, rfl, hS4⟩
  clear c4 hl4 hS3
  have hph : begP q0 = ⟨6, 0⟩ ∧ begU q0 at1 = at1 + 30 := by
    have h1 : begP q0 = ⟨6, 0⟩ := by unfold begP; rw [HP.out]; rfl
    refine ⟨h1, ?_⟩
    unfold begU
    rw [h1, HP.out, show lastsF 17 6 = 30 by decide, aft_no (by omega)]
  rw [hph.1, hph.2] at hS4
  clear hph
  have hS5 := hS4.alloc_ (.cells #[.int .u64 30, .int .u64 30, .int .u64 30] 23)
  clear hS4
  have c5 := see1_yes (q := q0) (side := 1) (flags := 18) (now := at1) (ph' := ⟨7, 0⟩) (u' := at1 + 180) hS5 (by omega) (by omega) (by rw [HP.out]; decide) (by rw [HP.out, show lastsF 17 7 = 180 by decide, aft_no (by omega)])
  have hl5 := HLD.out _ hS5.pull2.heap
  rw [← HQE.out] at c5
  clear hS5
  go_wp2_with (refine wpList_load_run (t := 121) rfl rfl rfl hl5 ?_)
  refine c5.mono ?_
  rintro e w6 ⟨rfl, hS6⟩
  clear c5 hl5
  have hSg := hS6.alloc_ (.cells #[.int .u64 30, .int .u64 180, .int .u64 30] 23)
  clear hS6
  have c6 := get1 hSg
  have hl6 := HLD.out _ hSg.pull2.heap
  rw [← HQE.out] at c6
  go_wp2_with (refine wpList_load_run (t := 121) rfl rfl rfl hl6 ?_)
  refine c6.mono ?_
  rintro e w7 ⟨rfl, hS7⟩
  clear c6 hl6 hSg
  have hst := flw_storeN ⟨q0, 7, 0, at1 + 180⟩
  have hX := hS7.alloc (.cells (Flw.enc ⟨q0, 7, 0, at1 + 180⟩).toArray 126)
  have hdu : ∀ W : World, W.heap[w7.heap.size]? = some (.cells (Flw.enc ⟨q0, 7, 0, at1 + 180⟩).toArray 126) → W.cell? ⟨w7.heap.size, 39, none⟩ = some (.int .u64 (at1 + 180)) := fun W h => (flw_cells h).2.2
  have HDU := Lib.hid hdu
  generalize hFE : (Flw.enc ⟨q0, 7, 0, at1 + 180⟩).toArray = FE at *
  generalize hbf : w7.heap.size = bf at *
  have HBF := Lib.hid hbf
  clear hS7 hdu hFE hbf
  go_wp2_with (refine wpList_store_run (t := 126) rfl rfl rfl rfl (hst _ _ rfl) (stop_ ?_))
  unfold Stop
  try rw [HBF.out]
  clear hst
  have c8 := ex1_none hX.pull2 (now := at1 + ea) (by omega)
  clear hX
  go_wp2_with fail
  try rw [HTE.out]
  try rw [HTE2.out]
  refine c8.mono ?_
  rintro e w8 ⟨v8, rfl, hS8⟩
  obtain ⟨A8, c8', rfl⟩ := hS8.arr_form
  clear c8
  have c9 := ex1_one hS8.drop (now := at1 + 180) (by omega)
  clear hS8
  go_wp2_with fail
  refine c9.mono ?_
  rintro e w9 ⟨v9, rfl, hS9⟩
  clear c9
  obtain ⟨A9, c9', rfl⟩ := hS9.arr_form
  have c10 := flNew_any 2 hS9
  rw [show roomOf 2 = 2 by decide] at c10
  clear hS9
  go_wp2_with fail
  refine c10.mono ?_
  rintro e w10 ⟨z, rfl, hS10⟩
  clear c10
  have c11 := beg1 (q := q0) (flags := 2) (now := at1) hS10 hE.pos hE (by omega) (by omega) (by rw [HP.out]; decide)
  have hl11 := HLD.out _ hS10.drop.drop.drop.drop.heap
  rw [← HQE.out] at c11
  clear hS10
  go_wp2_with (refine wpList_load_run (t := 121) rfl rfl rfl hl11 ?_)
  refine c11.mono ?_
  rintro e w11 ⟨p2, rfl, hS11⟩
  clear c11 hl11
  rw [show begP q0 = ⟨6, 0⟩ by unfold begP; rw [HP.out]; rfl] at hS11
  have c12 := see1_yes (q := q0) (side := 1) (flags := 18) (now := at1) (ph' := ⟨7, 0⟩) (u' := at1 + 180) hS11 (by omega) (by omega) (by rw [HP.out]; decide) (by rw [HP.out, show lastsF 17 7 = 180 by decide, aft_no (by omega)])
  have hl12 := HLD.out _ hS11.drop.drop.drop.drop.heap
  rw [← HQE.out] at c12
  clear hS11
  go_wp2_with (refine wpList_load_run (t := 121) rfl rfl rfl hl12 ?_)
  refine c12.mono ?_
  rintro e w12 ⟨rfl, hS12⟩
  clear c12 hl12
  have c13 := see1_yes (q := q0) (side := 0) (flags := 4) (now := at1) (ph' := ⟨7, 0⟩) (u' := at1 + 180) hS12 (by omega) (by omega) (by rw [HP.out]; decide) (by rw [HP.out, show lastsF 17 7 = 180 by decide, aft_no (by omega)])
  have hl13 := HLD.out _ hS12.drop.drop.drop.drop.heap
  rw [← HQE.out] at c13
  clear hS12
  go_wp2_with (refine wpList_load_run (t := 121) rfl rfl rfl hl13 ?_)
  refine c13.mono ?_
  rintro e w13 ⟨rfl, hS13⟩
  clear c13 hl13
  have hb0 := Below.refl w13.heap.size w13
  have hry : RowsAt Tup.enc w13 (.slice A9 1 c9') [q0] := ⟨hS13.pull2.arr_reads, by show 1 ≤ maxLen; unfold maxLen; omega⟩
  have hdu : ∀ W, Below w13.heap.size w13 W → W.cell? ⟨bf, 39, none⟩ = some (.int .u64 (at1 + 180)) := fun W hB => HDU.out _ (hS13.below_ hB).drop.drop.drop.heap
  have hld : ∀ W, Below w13.heap.size w13 W → (Instr.loadAt 121 (.pointer (some ⟨bw, 0, none⟩))).run Tryd.prog W = .ok (.agg QE) W := fun W hB => HLD.out _ (hS13.below_ hB).drop.drop.drop.drop.heap
  have HQL : Hid ((Value.agg QE).cells.size = 37) := Lib.hid (by rw [HQE.out]; simp [Value.cells, Tup.enc_length])
  have HTI := Lib.hid tup_info2
  have hb14 : Below w13.heap.size w13 (w13.alloc (.cells (Value.agg QE).cells 121)) := hb0.alloc (Nat.le_refl _) _
  have hrx : RowsAt Tup.enc (w13.alloc (.cells (Value.agg QE).cells 121)) (.slice (some ⟨w13.heap.size, 0, none⟩) 1 1) [q0] := by
    rw [HQE.out]
    refine ⟨?_, by show 1 ≤ maxLen; unfold maxLen; omega⟩
    have := @reads_new w13 121 1 1 q0.enc
    simpa [Value.cells] using this
  have c15 := plainT_any [q0] [q0] _ _ _ (hry.below hb14) hrx
  rw [sameOf_refl eqD_refl] at c15
  have hc1 := fun (W : World) (hB : Below w13.heap.size w13 W) => flLen_any (hS13.below_ hB).pull3
  have hc2 := fun (W : World) (hB : Below w13.heap.size w13 W) => flLen_any (hS13.below_ hB)
  rw [show (([] : List FIt).length : Int) = 0 from rfl] at hc1
  rw [show ((oneR p2 q0 ⟨7, 0⟩ (at1 + 180) : List FIt).length : Int) = 1 from rfl] at hc2
  have HC1 := Lib.hid hc1
  have HC2 := Lib.hid hc2
  have HDU2 := Lib.hid hdu
  have HLD2 := Lib.hid hld
  have HBB := Lib.hid hS13.below
  have hle13 := hS13.le
  clear hry hdu hld hrx hc1 hc2 hS13
  go_upto_region 20 with (fail)
  refine wp_region_seq [(0, .pure), (1, .quiet), (2, .pure), (3, .pure), (4, .pure), (5, .pure), (6, .pure), (7, .pure), (8, .pure), (9, .pure), (10, .pure), (11, .pure), (12, .pure), (13, .quiet), (14, .acts), (15, .acts), (16, .pure), (17, .pure), (18, .pure), (19, .acts), (20, .pure), (21, .pure), (22, .pure), (23, .pure), (24, .pure), (25, .pure), (26, .pure), (27, .acts), (28, .pure), (29, .pure), (30, .pure), (31, .pure), (32, .pure), (33, .pure)] (by kernel_rfl)
    (fun w' => Below w13.heap.size w13 w') hb0 ?_
  iterate 1 (refine ord_pure rfl rfl rfl (fun K' hK => ?_); go_big_quiet_op; refine hK _ ?_; clear hK K')
  refine ord_load (t := 23) rfl rfl rfl (p := .pointer (some ⟨bf, 39, none⟩)) (v := .int .u64 (at1 + 180)) rfl (fun w' hC => load_one Tryd.underlying23 rfl (HDU2.out _ hC)) (fun K' hK => ?_)
  go_simp
  refine hK _ ?_
  clear hK K'
  iterate 11 (refine ord_pure rfl rfl rfl (fun K' hK => ?_); go_big_quiet_op; refine hK _ ?_; clear hK K')
  refine ord_load (t := 121) rfl rfl rfl (p := .pointer (some ⟨bw, 0, none⟩)) (v := .agg QE) rfl (fun w' hC => HLD2.out _ hC) (fun K' hK => ?_)
  go_simp
  refine hK _ ?_
  clear hK K'
  refine ord_acts rfl rfl (fun K' hK => wp_buildSlice_one (v := .agg QE) (sz := 37) rfl rfl Tryd.underlying134 HTI.out HQL.out (by decide) (by decide) (hK _ _ hb14 ?_))
  clear hK K'
  go_simp
  refine ord_acts rfl rfl (fun K' hK => ?_)
  go_simp
  refine (c15).mono ?_
  rintro e w15 ⟨rfl, hbx⟩
  have hb15 := hb14.trans (hbx.mono hb14.size)
  refine hK _ _ (hb15) ?_
  clear hK K'
  go_simp
  iterate 3 (refine ord_pure rfl rfl rfl (fun K' hK => ?_); go_big_quiet_op; refine hK _ ?_; clear hK K')
  refine ord_acts rfl rfl (fun K' hK => ?_)
  go_simp
  refine (HC1.out _ hb15).mono ?_
  rintro e wx ⟨rfl, rfl⟩
  refine hK _ _ (hb15) ?_
  clear hK K'
  go_simp
  iterate 7 (refine ord_pure rfl rfl rfl (fun K' hK => ?_); go_big_quiet_op; refine hK _ ?_; clear hK K')
  refine ord_acts rfl rfl (fun K' hK => ?_)
  go_simp
  refine (HC2.out _ hb15).mono ?_
  rintro e wx ⟨rfl, rfl⟩
  refine hK _ _ (hb15) ?_
  clear hK K'
  go_simp
  iterate 6 (refine ord_pure rfl rfl rfl (fun K' hK => ?_); go_big_quiet_op; refine hK _ ?_; clear hK K')
  refine ord_nil ?_
  go_wp2_with fail
  go_ret
  exact ⟨rfl, HBB.out.trans (hb15.mono hle13)⟩
end Go.Proofs.YtepaanpdjadakaaDoor

/-! FlowsEnds' walk: kind 2, heard 0. -/
namespace Go.Proofs.YtepaanpdjadakaaDoor
open Go Go.RowKit

attribute [local irreducible] wpOrd
set_option maxRecDepth 8000 in
set_option maxHeartbeats 32000000 in
theorem ends26_20 (kd at0 ea0 : Int) (w : World) (ha : 0 ≤ at0 ∧ at0 ≤ 18446744073709551615) (he0 : 0 ≤ ea0 ∧ ea0 ≤ 18446744073709551615) (hE : Et w) (hm : wrap64 ((IntKind.u64.wrap kd).tmod 3) = 2) :
    Calls Tryd.prog 18 #[.int .i64 kd, .bool false, .int .u64 at0, .int .u64 ea0] w fun e w' => e = .returned (.bool true) ∧ Below w.heap.size w w' := by
  have e0 : errV 0 = .nilIface := rfl
  obtain ⟨at1, hat⟩ : ∃ at1, at1 = at0 % 1152921504606846976 := ⟨_, rfl⟩
  have hatb : 0 ≤ at1 ∧ at1 < 1152921504606846976 := by omega
  have htm : at0.tmod 1152921504606846976 = at1 := by rw [Int.tmod_eq_emod_of_nonneg ha.1, hat]
  have HTM := Lib.hid htm
  have HTM2 := Lib.hid hat.symm
  clear hat htm
  obtain ⟨ea, hea⟩ : ∃ ea, ea = ea0 % 30 := ⟨_, rfl⟩
  have heb : 0 ≤ ea ∧ ea < 30 := by omega
  have hte : ea0.tmod 30 = ea := by rw [Int.tmod_eq_emod_of_nonneg he0.1, hea]
  have HTE := Lib.hid hte
  have HTE2 := Lib.hid hea.symm
  clear hea hte
  have hw0 := fun W : World => way_any 3 W
  simp only [way3] at hw0
  have HW := Lib.hid hw0
  clear hw0
  obtain ⟨q0, hq0⟩ : ∃ q0, q0 = tupP 1 0 := ⟨_, rfl⟩
  have hp : q0.proto = 1 := by rw [hq0]; rfl
  have HP := Lib.hid hp
  rw [← hq0] at HW
  clear hp hq0
  have c1 := fun W : World => flNew_any 2 (Sat.start W)
  go_enter Tryd.func18, Tryd.ntmps18
  go_wp2_with fail
  try rw [hm]
  try rw [HTM.out]
  try rw [HTM2.out]
  have hS0 := (Sat.start w).alloc_ (.cells #[.int .i64 0, .int .i64 2, .int .i64 3] 3)
  refine (HW.out _).mono ?_
  rintro e w1 ⟨rfl, hb1⟩
  have hS1 := hS0.below_ hb1
  have hst := tup_store q0
  have hX := hS1.alloc (.cells q0.enc.toArray 121)
  have hld : ∀ W, W.heap[w1.heap.size]? = some (.cells q0.enc.toArray 121) → (Instr.loadAt 121 (.pointer (some ⟨w1.heap.size, 0, none⟩))).run Tryd.prog W = .ok (.agg q0.enc.toArray) W := fun W h => tupw_load h
  have HLD := Lib.hid hld
  obtain ⟨QE, hQE⟩ : ∃ QE, QE = q0.enc.toArray := ⟨_, rfl⟩
  rw [← hQE] at hst hX HLD ⊢
  have HQE := Lib.hid hQE
  generalize hbw : w1.heap.size = bw at *
  have HBW := Lib.hid hbw
  clear hS0 hb1 hS1 hld hQE hbw
  go_wp2_with (refine wpList_store_run (t := 121) rfl rfl rfl rfl (hst _ _ rfl) (stop_ ?_))
  unfold Stop
  try rw [HBW.out]
  have c2 := flNew_any 2 hX
  rw [show roomOf 2 = 2 by decide] at c2
  clear hX hst
  go_wp2_with fail
  refine c2.mono ?_
  rintro e w2 ⟨t, rfl, hS2⟩
  clear c2
  go_wp2_with fail
  refine (awake26_any _ (hS2.et hE.pos hE)).mono ?_
  rintro e w3 ⟨rfl, hb3⟩
  have hS3 := hS2.below_ hb3
  clear hS2 hb3
  have c4 := beg1 (q := q0) (flags := 2) (now := at1) hS3 hE.pos hE (by omega) (by omega) (by rw [HP.out]; decide)
  have hl4 := HLD.out _ hS3.pull2.heap
  rw [← HQE.out] at c4
  go_wp2_with (refine wpList_load_want (t := 121) rfl rfl rfl hl4 ?_)
  refine c4.mono ?_
  rintro e w4 ⟨p, rfl, hS4⟩
  clear c4 hl4 hS3
  have hph : begP q0 = ⟨6, 0⟩ ∧ begU q0 at1 = at1 + 30 := by
    have h1 : begP q0 = ⟨6, 0⟩ := by unfold begP; rw [HP.out]; rfl
    refine ⟨h1, ?_⟩
    unfold begU
    rw [h1, HP.out, show lastsF 1 6 = 30 by decide, aft_no (by omega)]
  rw [hph.1, hph.2] at hS4
  clear hph
  have hS5 := hS4.alloc_ (.cells #[.int .u64 30, .int .u64 30, .int .u64 30] 23)
  clear hS4
  have hSg := hS5
  clear hS5
  have c6 := get1 hSg
  have hl6 := HLD.out _ hSg.pull2.heap
  rw [← HQE.out] at c6
  go_wp2_with (refine wpList_load_run (t := 121) rfl rfl rfl hl6 ?_)
  refine c6.mono ?_
  rintro e w7 ⟨rfl, hS7⟩
  clear c6 hl6 hSg
  have hst := flw_storeN ⟨q0, 6, 0, at1 + 30⟩
  have hX := hS7.alloc (.cells (Flw.enc ⟨q0, 6, 0, at1 + 30⟩).toArray 126)
  have hdu : ∀ W : World, W.heap[w7.heap.size]? = some (.cells (Flw.enc ⟨q0, 6, 0, at1 + 30⟩).toArray 126) → W.cell? ⟨w7.heap.size, 39, none⟩ = some (.int .u64 (at1 + 30)) := fun W h => (flw_cells h).2.2
  have HDU := Lib.hid hdu
  generalize hFE : (Flw.enc ⟨q0, 6, 0, at1 + 30⟩).toArray = FE at *
  generalize hbf : w7.heap.size = bf at *
  have HBF := Lib.hid hbf
  clear hS7 hdu hFE hbf
  go_wp2_with (refine wpList_store_run (t := 126) rfl rfl rfl rfl (hst _ _ rfl) (stop_ ?_))
  unfold Stop
  try rw [HBF.out]
  clear hst
  have c8 := ex1_none hX.pull2 (now := at1 + ea) (by omega)
  clear hX
  go_wp2_with fail
  try rw [HTE.out]
  try rw [HTE2.out]
  refine c8.mono ?_
  rintro e w8 ⟨v8, rfl, hS8⟩
  obtain ⟨A8, c8', rfl⟩ := hS8.arr_form
  clear c8
  have c9 := ex1_one hS8.drop (now := at1 + 30) (by omega)
  clear hS8
  go_wp2_with fail
  refine c9.mono ?_
  rintro e w9 ⟨v9, rfl, hS9⟩
  clear c9
  obtain ⟨A9, c9', rfl⟩ := hS9.arr_form
  have c10 := flNew_any 2 hS9
  rw [show roomOf 2 = 2 by decide] at c10
  clear hS9
  go_wp2_with fail
  refine c10.mono ?_
  rintro e w10 ⟨z, rfl, hS10⟩
  clear c10
  have c11 := beg1 (q := q0) (flags := 2) (now := at1) hS10 hE.pos hE (by omega) (by omega) (by rw [HP.out]; decide)
  have hl11 := HLD.out _ hS10.drop.drop.drop.drop.heap
  rw [← HQE.out] at c11
  clear hS10
  go_wp2_with (refine wpList_load_run (t := 121) rfl rfl rfl hl11 ?_)
  refine c11.mono ?_
  rintro e w11 ⟨p2, rfl, hS11⟩
  clear c11 hl11
  rw [show begP q0 = ⟨6, 0⟩ by unfold begP; rw [HP.out]; rfl] at hS11
  have c12 := see1_yes (q := q0) (side := 1) (flags := 18) (now := at1) (ph' := ⟨7, 0⟩) (u' := at1 + 30) hS11 (by omega) (by omega) (by rw [HP.out]; decide) (by rw [HP.out, show lastsF 1 7 = 30 by decide, aft_no (by omega)])
  have hl12 := HLD.out _ hS11.drop.drop.drop.drop.heap
  rw [← HQE.out] at c12
  clear hS11
  go_wp2_with (refine wpList_load_run (t := 121) rfl rfl rfl hl12 ?_)
  refine c12.mono ?_
  rintro e w12 ⟨rfl, hS12⟩
  clear c12 hl12
  have c13 := see1_yes (q := q0) (side := 0) (flags := 4) (now := at1) (ph' := ⟨7, 0⟩) (u' := at1 + 30) hS12 (by omega) (by omega) (by rw [HP.out]; decide) (by rw [HP.out, show lastsF 1 7 = 30 by decide, aft_no (by omega)])
  have hl13 := HLD.out _ hS12.drop.drop.drop.drop.heap
  rw [← HQE.out] at c13
  clear hS12
  go_wp2_with (refine wpList_load_run (t := 121) rfl rfl rfl hl13 ?_)
  refine c13.mono ?_
  rintro e w13 ⟨rfl, hS13⟩
  clear c13 hl13
  have hb0 := Below.refl w13.heap.size w13
  have hry : RowsAt Tup.enc w13 (.slice A9 1 c9') [q0] := ⟨hS13.pull2.arr_reads, by show 1 ≤ maxLen; unfold maxLen; omega⟩
  have hdu : ∀ W, Below w13.heap.size w13 W → W.cell? ⟨bf, 39, none⟩ = some (.int .u64 (at1 + 30)) := fun W hB => HDU.out _ (hS13.below_ hB).drop.drop.drop.heap
  have hld : ∀ W, Below w13.heap.size w13 W → (Instr.loadAt 121 (.pointer (some ⟨bw, 0, none⟩))).run Tryd.prog W = .ok (.agg QE) W := fun W hB => HLD.out _ (hS13.below_ hB).drop.drop.drop.drop.heap
  have HQL : Hid ((Value.agg QE).cells.size = 37) := Lib.hid (by rw [HQE.out]; simp [Value.cells, Tup.enc_length])
  have HTI := Lib.hid tup_info2
  have hb14 : Below w13.heap.size w13 (w13.alloc (.cells (Value.agg QE).cells 121)) := hb0.alloc (Nat.le_refl _) _
  have hrx : RowsAt Tup.enc (w13.alloc (.cells (Value.agg QE).cells 121)) (.slice (some ⟨w13.heap.size, 0, none⟩) 1 1) [q0] := by
    rw [HQE.out]
    refine ⟨?_, by show 1 ≤ maxLen; unfold maxLen; omega⟩
    have := @reads_new w13 121 1 1 q0.enc
    simpa [Value.cells] using this
  have c15 := plainT_any [q0] [q0] _ _ _ (hry.below hb14) hrx
  rw [sameOf_refl eqD_refl] at c15
  have hc1 := fun (W : World) (hB : Below w13.heap.size w13 W) => flLen_any (hS13.below_ hB).pull3
  have hc2 := fun (W : World) (hB : Below w13.heap.size w13 W) => flLen_any (hS13.below_ hB)
  rw [show (([] : List FIt).length : Int) = 0 from rfl] at hc1
  rw [show ((oneR p2 q0 ⟨7, 0⟩ (at1 + 30) : List FIt).length : Int) = 1 from rfl] at hc2
  have HC1 := Lib.hid hc1
  have HC2 := Lib.hid hc2
  have HDU2 := Lib.hid hdu
  have HLD2 := Lib.hid hld
  have HBB := Lib.hid hS13.below
  have hle13 := hS13.le
  clear hry hdu hld hrx hc1 hc2 hS13
  go_upto_region 20 with (fail)
  refine wp_region_seq [(0, .pure), (1, .quiet), (2, .pure), (3, .pure), (4, .pure), (5, .pure), (6, .pure), (7, .pure), (8, .pure), (9, .pure), (10, .pure), (11, .pure), (12, .pure), (13, .quiet), (14, .acts), (15, .acts), (16, .pure), (17, .pure), (18, .pure), (19, .acts), (20, .pure), (21, .pure), (22, .pure), (23, .pure), (24, .pure), (25, .pure), (26, .pure), (27, .acts), (28, .pure), (29, .pure), (30, .pure), (31, .pure), (32, .pure), (33, .pure)] (by kernel_rfl)
    (fun w' => Below w13.heap.size w13 w') hb0 ?_
  iterate 1 (refine ord_pure rfl rfl rfl (fun K' hK => ?_); go_big_quiet_op; refine hK _ ?_; clear hK K')
  refine ord_load (t := 23) rfl rfl rfl (p := .pointer (some ⟨bf, 39, none⟩)) (v := .int .u64 (at1 + 30)) rfl (fun w' hC => load_one Tryd.underlying23 rfl (HDU2.out _ hC)) (fun K' hK => ?_)
  go_simp
  refine hK _ ?_
  clear hK K'
  iterate 11 (refine ord_pure rfl rfl rfl (fun K' hK => ?_); go_big_quiet_op; refine hK _ ?_; clear hK K')
  refine ord_load (t := 121) rfl rfl rfl (p := .pointer (some ⟨bw, 0, none⟩)) (v := .agg QE) rfl (fun w' hC => HLD2.out _ hC) (fun K' hK => ?_)
  go_simp
  refine hK _ ?_
  clear hK K'
  refine ord_acts rfl rfl (fun K' hK => wp_buildSlice_one (v := .agg QE) (sz := 37) rfl rfl Tryd.underlying134 HTI.out HQL.out (by decide) (by decide) (hK _ _ hb14 ?_))
  clear hK K'
  go_simp
  refine ord_acts rfl rfl (fun K' hK => ?_)
  go_simp
  refine (c15).mono ?_
  rintro e w15 ⟨rfl, hbx⟩
  have hb15 := hb14.trans (hbx.mono hb14.size)
  refine hK _ _ (hb15) ?_
  clear hK K'
  go_simp
  iterate 3 (refine ord_pure rfl rfl rfl (fun K' hK => ?_); go_big_quiet_op; refine hK _ ?_; clear hK K')
  refine ord_acts rfl rfl (fun K' hK => ?_)
  go_simp
  refine (HC1.out _ hb15).mono ?_
  rintro e wx ⟨rfl, rfl⟩
  refine hK _ _ (hb15) ?_
  clear hK K'
  go_simp
  iterate 7 (refine ord_pure rfl rfl rfl (fun K' hK => ?_); go_big_quiet_op; refine hK _ ?_; clear hK K')
  refine ord_acts rfl rfl (fun K' hK => ?_)
  go_simp
  refine (HC2.out _ hb15).mono ?_
  rintro e wx ⟨rfl, rfl⟩
  refine hK _ _ (hb15) ?_
  clear hK K'
  go_simp
  iterate 6 (refine ord_pure rfl rfl rfl (fun K' hK => ?_); go_big_quiet_op; refine hK _ ?_; clear hK K')
  refine ord_nil ?_
  go_wp2_with fail
  go_ret
  exact ⟨rfl, HBB.out.trans (hb15.mono hle13)⟩
end Go.Proofs.YtepaanpdjadakaaDoor

/-! FlowsEnds' walk: kind 2, heard 1. -/
namespace Go.Proofs.YtepaanpdjadakaaDoor
open Go Go.RowKit

attribute [local irreducible] wpOrd
set_option maxRecDepth 8000 in
set_option maxHeartbeats 32000000 in
theorem ends26_21 (kd at0 ea0 : Int) (w : World) (ha : 0 ≤ at0 ∧ at0 ≤ 18446744073709551615) (he0 : 0 ≤ ea0 ∧ ea0 ≤ 18446744073709551615) (hE : Et w) (hm : wrap64 ((IntKind.u64.wrap kd).tmod 3) = 2) :
    Calls Tryd.prog 18 #[.int .i64 kd, .bool true, .int .u64 at0, .int .u64 ea0] w fun e w' => e = .returned (.bool true) ∧ Below w.heap.size w w' := by
  have e0 : errV 0 = .nilIface := rfl
  obtain ⟨at1, hat⟩ : ∃ at1, at1 = at0 % 1152921504606846976 := ⟨_, rfl⟩
  have hatb : 0 ≤ at1 ∧ at1 < 1152921504606846976 := by omega
  have htm : at0.tmod 1152921504606846976 = at1 := by rw [Int.tmod_eq_emod_of_nonneg ha.1, hat]
  have HTM := Lib.hid htm
  have HTM2 := Lib.hid hat.symm
  clear hat htm
  obtain ⟨ea, hea⟩ : ∃ ea, ea = ea0 % 30 := ⟨_, rfl⟩
  have heb : 0 ≤ ea ∧ ea < 30 := by omega
  have hte : ea0.tmod 30 = ea := by rw [Int.tmod_eq_emod_of_nonneg he0.1, hea]
  have HTE := Lib.hid hte
  have HTE2 := Lib.hid hea.symm
  clear hea hte
  have hw0 := fun W : World => way_any 3 W
  simp only [way3] at hw0
  have HW := Lib.hid hw0
  clear hw0
  obtain ⟨q0, hq0⟩ : ∃ q0, q0 = tupP 1 0 := ⟨_, rfl⟩
  have hp : q0.proto = 1 := by rw [hq0]; rfl
  have HP := Lib.hid hp
  rw [← hq0] at HW
  clear hp hq0
  have c1 := fun W : World => flNew_any 2 (Sat.start W)
  go_enter Tryd.func18, Tryd.ntmps18
  go_wp2_with fail
  try rw [hm]
  try rw [HTM.out]
  try rw [HTM2.out]
  have hS0 := (Sat.start w).alloc_ (.cells #[.int .i64 0, .int .i64 2, .int .i64 3] 3)
  refine (HW.out _).mono ?_
  rintro e w1 ⟨rfl, hb1⟩
  have hS1 := hS0.below_ hb1
  have hst := tup_store q0
  have hX := hS1.alloc (.cells q0.enc.toArray 121)
  have hld : ∀ W, W.heap[w1.heap.size]? = some (.cells q0.enc.toArray 121) → (Instr.loadAt 121 (.pointer (some ⟨w1.heap.size, 0, none⟩))).run Tryd.prog W = .ok (.agg q0.enc.toArray) W := fun W h => tupw_load h
  have HLD := Lib.hid hld
  obtain ⟨QE, hQE⟩ : ∃ QE, QE = q0.enc.toArray := ⟨_, rfl⟩
  rw [← hQE] at hst hX HLD ⊢
  have HQE := Lib.hid hQE
  generalize hbw : w1.heap.size = bw at *
  have HBW := Lib.hid hbw
  clear hS0 hb1 hS1 hld hQE hbw
  go_wp2_with (refine wpList_store_run (t := 121) rfl rfl rfl rfl (hst _ _ rfl) (stop_ ?_))
  unfold Stop
  try rw [HBW.out]
  have c2 := flNew_any 2 hX
  rw [show roomOf 2 = 2 by decide] at c2
  clear hX hst
  go_wp2_with fail
  refine c2.mono ?_
  rintro e w2 ⟨t, rfl, hS2⟩
  clear c2
  go_wp2_with fail
  refine (awake26_any _ (hS2.et hE.pos hE)).mono ?_
  rintro e w3 ⟨rfl, hb3⟩
  have hS3 := hS2.below_ hb3
  clear hS2 hb3
  have c4 := beg1 (q := q0) (flags := 2) (now := at1) hS3 hE.pos hE (by omega) (by omega) (by rw [HP.out]; decide)
  have hl4 := HLD.out _ hS3.pull2.heap
  rw [← HQE.out] at c4
  go_wp2_with (refine wpList_load_want (t := 121) rfl rfl rfl hl4 ?_)
  refine c4.mono ?_
  rintro e w4 ⟨p, rfl, hS4⟩
  clear c4 hl4 hS3
  have hph : begP q0 = ⟨6, 0⟩ ∧ begU q0 at1 = at1 + 30 := by
    have h1 : begP q0 = ⟨6, 0⟩ := by unfold begP; rw [HP.out]; rfl
    refine ⟨h1, ?_⟩
    unfold begU
    rw [h1, HP.out, show lastsF 1 6 = 30 by decide, aft_no (by omega)]
  rw [hph.1, hph.2] at hS4
  clear hph
  have hS5 := hS4.alloc_ (.cells #[.int .u64 30, .int .u64 30, .int .u64 30] 23)
  clear hS4
  have c5 := see1_yes (q := q0) (side := 1) (flags := 18) (now := at1) (ph' := ⟨7, 0⟩) (u' := at1 + 30) hS5 (by omega) (by omega) (by rw [HP.out]; decide) (by rw [HP.out, show lastsF 1 7 = 30 by decide, aft_no (by omega)])
  have hl5 := HLD.out _ hS5.pull2.heap
  rw [← HQE.out] at c5
  clear hS5
  go_wp2_with (refine wpList_load_run (t := 121) rfl rfl rfl hl5 ?_)
  refine c5.mono ?_
  rintro e w6 ⟨rfl, hS6⟩
  clear c5 hl5
  have hSg := hS6.alloc_ (.cells #[.int .u64 30, .int .u64 180, .int .u64 30] 23)
  clear hS6
  have c6 := get1 hSg
  have hl6 := HLD.out _ hSg.pull2.heap
  rw [← HQE.out] at c6
  go_wp2_with (refine wpList_load_run (t := 121) rfl rfl rfl hl6 ?_)
  refine c6.mono ?_
  rintro e w7 ⟨rfl, hS7⟩
  clear c6 hl6 hSg
  have hst := flw_storeN ⟨q0, 7, 0, at1 + 30⟩
  have hX := hS7.alloc (.cells (Flw.enc ⟨q0, 7, 0, at1 + 30⟩).toArray 126)
  have hdu : ∀ W : World, W.heap[w7.heap.size]? = some (.cells (Flw.enc ⟨q0, 7, 0, at1 + 30⟩).toArray 126) → W.cell? ⟨w7.heap.size, 39, none⟩ = some (.int .u64 (at1 + 30)) := fun W h => (flw_cells h).2.2
  have HDU := Lib.hid hdu
  generalize hFE : (Flw.enc ⟨q0, 7, 0, at1 + 30⟩).toArray = FE at *
  generalize hbf : w7.heap.size = bf at *
  have HBF := Lib.hid hbf
  clear hS7 hdu hFE hbf
  go_wp2_with (refine wpList_store_run (t := 126) rfl rfl rfl rfl (hst _ _ rfl) (stop_ ?_))
  unfold Stop
  try rw [HBF.out]
  clear hst
  have c8 := ex1_none hX.pull2 (now := at1 + ea) (by omega)
  clear hX
  go_wp2_with fail
  try rw [HTE.out]
  try rw [HTE2.out]
  refine c8.mono ?_
  rintro e w8 ⟨v8, rfl, hS8⟩
  obtain ⟨A8, c8', rfl⟩ := hS8.arr_form
  clear c8
  have c9 := ex1_one hS8.drop (now := at1 + 30) (by omega)
  clear hS8
  go_wp2_with fail
  refine c9.mono ?_
  rintro e w9 ⟨v9, rfl, hS9⟩
  clear c9
  obtain ⟨A9, c9', rfl⟩ := hS9.arr_form
  have c10 := flNew_any 2 hS9
  rw [show roomOf 2 = 2 by decide] at c10
  clear hS9
  go_wp2_with fail
  refine c10.mono ?_
  rintro e w10 ⟨z, rfl, hS10⟩
  clear c10
  have c11 := beg1 (q := q0) (flags := 2) (now := at1) hS10 hE.pos hE (by omega) (by omega) (by rw [HP.out]; decide)
  have hl11 := HLD.out _ hS10.drop.drop.drop.drop.heap
  rw [← HQE.out] at c11
  clear hS10
  go_wp2_with (refine wpList_load_run (t := 121) rfl rfl rfl hl11 ?_)
  refine c11.mono ?_
  rintro e w11 ⟨p2, rfl, hS11⟩
  clear c11 hl11
  rw [show begP q0 = ⟨6, 0⟩ by unfold begP; rw [HP.out]; rfl] at hS11
  have c12 := see1_yes (q := q0) (side := 1) (flags := 18) (now := at1) (ph' := ⟨7, 0⟩) (u' := at1 + 30) hS11 (by omega) (by omega) (by rw [HP.out]; decide) (by rw [HP.out, show lastsF 1 7 = 30 by decide, aft_no (by omega)])
  have hl12 := HLD.out _ hS11.drop.drop.drop.drop.heap
  rw [← HQE.out] at c12
  clear hS11
  go_wp2_with (refine wpList_load_run (t := 121) rfl rfl rfl hl12 ?_)
  refine c12.mono ?_
  rintro e w12 ⟨rfl, hS12⟩
  clear c12 hl12
  have c13 := see1_yes (q := q0) (side := 0) (flags := 4) (now := at1) (ph' := ⟨7, 0⟩) (u' := at1 + 30) hS12 (by omega) (by omega) (by rw [HP.out]; decide) (by rw [HP.out, show lastsF 1 7 = 30 by decide, aft_no (by omega)])
  have hl13 := HLD.out _ hS12.drop.drop.drop.drop.heap
  rw [← HQE.out] at c13
  clear hS12
  go_wp2_with (refine wpList_load_run (t := 121) rfl rfl rfl hl13 ?_)
  refine c13.mono ?_
  rintro e w13 ⟨rfl, hS13⟩
  clear c13 hl13
  have hb0 := Below.refl w13.heap.size w13
  have hry : RowsAt Tup.enc w13 (.slice A9 1 c9') [q0] := ⟨hS13.pull2.arr_reads, by show 1 ≤ maxLen; unfold maxLen; omega⟩
  have hdu : ∀ W, Below w13.heap.size w13 W → W.cell? ⟨bf, 39, none⟩ = some (.int .u64 (at1 + 30)) := fun W hB => HDU.out _ (hS13.below_ hB).drop.drop.drop.heap
  have hld : ∀ W, Below w13.heap.size w13 W → (Instr.loadAt 121 (.pointer (some ⟨bw, 0, none⟩))).run Tryd.prog W = .ok (.agg QE) W := fun W hB => HLD.out _ (hS13.below_ hB).drop.drop.drop.drop.heap
  have HQL : Hid ((Value.agg QE).cells.size = 37) := Lib.hid (by rw [HQE.out]; simp [Value.cells, Tup.enc_length])
  have HTI := Lib.hid tup_info2
  have hb14 : Below w13.heap.size w13 (w13.alloc (.cells (Value.agg QE).cells 121)) := hb0.alloc (Nat.le_refl _) _
  have hrx : RowsAt Tup.enc (w13.alloc (.cells (Value.agg QE).cells 121)) (.slice (some ⟨w13.heap.size, 0, none⟩) 1 1) [q0] := by
    rw [HQE.out]
    refine ⟨?_, by show 1 ≤ maxLen; unfold maxLen; omega⟩
    have := @reads_new w13 121 1 1 q0.enc
    simpa [Value.cells] using this
  have c15 := plainT_any [q0] [q0] _ _ _ (hry.below hb14) hrx
  rw [sameOf_refl eqD_refl] at c15
  have hc1 := fun (W : World) (hB : Below w13.heap.size w13 W) => flLen_any (hS13.below_ hB).pull3
  have hc2 := fun (W : World) (hB : Below w13.heap.size w13 W) => flLen_any (hS13.below_ hB)
  rw [show (([] : List FIt).length : Int) = 0 from rfl] at hc1
  rw [show ((oneR p2 q0 ⟨7, 0⟩ (at1 + 30) : List FIt).length : Int) = 1 from rfl] at hc2
  have HC1 := Lib.hid hc1
  have HC2 := Lib.hid hc2
  have HDU2 := Lib.hid hdu
  have HLD2 := Lib.hid hld
  have HBB := Lib.hid hS13.below
  have hle13 := hS13.le
  clear hry hdu hld hrx hc1 hc2 hS13
  go_upto_region 20 with (fail)
  refine wp_region_seq [(0, .pure), (1, .quiet), (2, .pure), (3, .pure), (4, .pure), (5, .pure), (6, .pure), (7, .pure), (8, .pure), (9, .pure), (10, .pure), (11, .pure), (12, .pure), (13, .quiet), (14, .acts), (15, .acts), (16, .pure), (17, .pure), (18, .pure), (19, .acts), (20, .pure), (21, .pure), (22, .pure), (23, .pure), (24, .pure), (25, .pure), (26, .pure), (27, .acts), (28, .pure), (29, .pure), (30, .pure), (31, .pure), (32, .pure), (33, .pure)] (by kernel_rfl)
    (fun w' => Below w13.heap.size w13 w') hb0 ?_
  iterate 1 (refine ord_pure rfl rfl rfl (fun K' hK => ?_); go_big_quiet_op; refine hK _ ?_; clear hK K')
  refine ord_load (t := 23) rfl rfl rfl (p := .pointer (some ⟨bf, 39, none⟩)) (v := .int .u64 (at1 + 30)) rfl (fun w' hC => load_one Tryd.underlying23 rfl (HDU2.out _ hC)) (fun K' hK => ?_)
  go_simp
  refine hK _ ?_
  clear hK K'
  iterate 11 (refine ord_pure rfl rfl rfl (fun K' hK => ?_); go_big_quiet_op; refine hK _ ?_; clear hK K')
  refine ord_load (t := 121) rfl rfl rfl (p := .pointer (some ⟨bw, 0, none⟩)) (v := .agg QE) rfl (fun w' hC => HLD2.out _ hC) (fun K' hK => ?_)
  go_simp
  refine hK _ ?_
  clear hK K'
  refine ord_acts rfl rfl (fun K' hK => wp_buildSlice_one (v := .agg QE) (sz := 37) rfl rfl Tryd.underlying134 HTI.out HQL.out (by decide) (by decide) (hK _ _ hb14 ?_))
  clear hK K'
  go_simp
  refine ord_acts rfl rfl (fun K' hK => ?_)
  go_simp
  refine (c15).mono ?_
  rintro e w15 ⟨rfl, hbx⟩
  have hb15 := hb14.trans (hbx.mono hb14.size)
  refine hK _ _ (hb15) ?_
  clear hK K'
  go_simp
  iterate 3 (refine ord_pure rfl rfl rfl (fun K' hK => ?_); go_big_quiet_op; refine hK _ ?_; clear hK K')
  refine ord_acts rfl rfl (fun K' hK => ?_)
  go_simp
  refine (HC1.out _ hb15).mono ?_
  rintro e wx ⟨rfl, rfl⟩
  refine hK _ _ (hb15) ?_
  clear hK K'
  go_simp
  iterate 7 (refine ord_pure rfl rfl rfl (fun K' hK => ?_); go_big_quiet_op; refine hK _ ?_; clear hK K')
  refine ord_acts rfl rfl (fun K' hK => ?_)
  go_simp
  refine (HC2.out _ hb15).mono ?_
  rintro e wx ⟨rfl, rfl⟩
  refine hK _ _ (hb15) ?_
  clear hK K'
  go_simp
  iterate 6 (refine ord_pure rfl rfl rfl (fun K' hK => ?_); go_big_quiet_op; refine hK _ ?_; clear hK K')
  refine ord_nil ?_
  go_wp2_with fail
  go_ret
  exact ⟨rfl, HBB.out.trans (hb15.mono hle13)⟩
end Go.Proofs.YtepaanpdjadakaaDoor

/-! FlowsEnds' walk. -/
namespace Go.Proofs.YtepaanpdjadakaaDoor
open Go Go.RowKit

theorem ends26_any (kd : Int) (b : Bool) (at0 ea0 : Int) (w : World) (wa : (Lit.int .u64 at0).wf = true) (we : (Lit.int .u64 ea0).wf = true) (hE : Et w) :
    Calls Tryd.prog 18 #[.int .i64 kd, .bool b, .int .u64 at0, .int .u64 ea0] w fun e w' => e = .returned (.bool true) ∧ Below w.heap.size w w' := by
  obtain ⟨m, hm, hmod⟩ := mod_of kd 3 (by decide) (by decide)
  have ha := wf_u64 wa
  have he := wf_u64 we
  obtain rfl | rfl | rfl : m = 0 ∨ m = 1 ∨ m = 2 := by omega
  all_goals cases b
  · exact ends26_00 kd at0 ea0 w ha he hE hmod
  · exact ends26_01 kd at0 ea0 w ha he hE hmod
  · exact ends26_10 kd at0 ea0 w ha he hE hmod
  · exact ends26_11 kd at0 ea0 w ha he hE hmod
  · exact ends26_20 kd at0 ea0 w ha he hE hmod
  · exact ends26_21 kd at0 ea0 w ha he hE hmod
end Go.Proofs.YtepaanpdjadakaaDoor
