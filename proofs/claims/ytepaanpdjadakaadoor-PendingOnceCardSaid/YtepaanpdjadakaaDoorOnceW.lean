import Derived.Test.YtepaanpdjadakaaDoorOnceP
/-! PendingOnce's walk. -/
namespace Go.Proofs.YtepaanpdjadakaaDoor
open Go Go.RowKit

attribute [local irreducible] wpOrd
set_option maxRecDepth 8000 in
set_option maxHeartbeats 32000000 in
theorem once_any (q : Qry) (what u now : Int) (w : World) (hE : Et w) (hs : q.qst.name.size ≤ reachBytes) :
    Calls Tryd.prog 8 #[.agg q.enc.toArray, .int .i64 what, .int .u64 u, .int .u64 now] w fun e w' => e = .returned (.bool true) ∧ Below w.heap.size w w' := by
  have e0 : errV 0 = .nilIface := rfl
  unfold reachBytes at hs
  have hX := (Sat.start w).alloc (.cells q.enc.toArray 67)
  have c1 := pNew_any 4 hX
  rw [show roomOf 4 = 4 by decide] at c1
  have HQL : Hid (q.enc.length = 40) := Lib.hid q.enc_length
  obtain ⟨p1, p2, p3⟩ := once_add q u
  obtain ⟨M, hM⟩ : ∃ M, (IntKind.u64.wrap what).tmod 8 = M := ⟨_, rfl⟩
  have hM7 : M = 0 ∨ M = 1 ∨ M = 2 ∨ M = 3 ∨ M = 4 ∨ M = 5 ∨ M = 6 ∨ M = 7 := by
    have h0 : 0 ≤ IntKind.u64.wrap what := by simp only [IntKind.wrap, IntKind.bits, IntKind.signed]; simp; omega
    rw [Int.tmod_eq_emod_of_nonneg h0] at hM
    have h2 := Int.emod_nonneg (IntKind.u64.wrap what) (by decide : (8 : Int) ≠ 0)
    have h3 := Int.emod_lt_of_pos (IntKind.u64.wrap what) (by decide : (0 : Int) < 8)
    omega
  have hld0 : ∀ W, W.heap[w.heap.size]? = some (.cells q.enc.toArray 67) → (Instr.loadAt 67 (.pointer (some ⟨w.heap.size, 0, none⟩))).run Tryd.prog W = .ok (.agg q.enc.toArray) W :=
    fun W h => run_loadAt_row h Tryd.underlying67 rfl (by rw [HQL.out]; kernel_rfl) (fun j u hu => by simpa using hu)
  have hst := qry_store q
  have c2 := fun (t : Nat) (W : World) (F : HP) (hW : Sat w.heap.size w W (ptab t 4 [] 0 • F)) => pAdd_any hW hE.pos hE KN.nil (by omega) q u
  rw [p1, p2, p3, e0] at c2
  have HC2 := Lib.hid c2
  have HST := Lib.hid hst
  have HLD := Lib.hid hld0
  clear p1 p2 p3 c2 hst hld0 hX
  generalize hQ : q.enc.toArray = Q at *
  have HQ := Lib.hid hQ
  clear hQ
  go_enter Tryd.func8, Tryd.ntmps8
  go_wp2_with fail
  refine c1.mono ?_
  rintro e w1 ⟨t, rfl, hS1⟩
  clear c1
  go_wp2_with fail
  refine (awake23_any _ (hS1.et hE.pos hE)).mono ?_
  rintro e w3 ⟨rfl, hb3⟩
  have hS3 := hS1.below_ hb3
  have hl3 := HLD.out w3 hS3.pull2.heap
  have c2 := HC2.out t w3 _ hS3
  clear hS1 hb3 hS3
  go_wp2_with (refine wpList_load_want (t := 67) rfl rfl rfl hl3 ?_)
  refine c2.mono ?_
  rintro e w4 ⟨rfl, hS4⟩
  clear c2 hl3
  have hl4 := HLD.out w4 hS4.pull2.heap
  have hX4 := hS4.alloc (.cells Q 67)
  clear hS4
  go_wp2_with (first | (refine wpList_load_run (t := 67) rfl rfl rfl hl4 ?_) | (refine wpList_store_run (t := 67) rfl rfl rfl rfl (HST.out _ _ rfl) (stop_ ?_)))
  unfold Stop
  clear hl4 HST HC2
  have hX := hX4.to (by ac_rfl : _ = blk w.heap.size (.cells Q 67) • blk w4.heap.size (.cells Q 67) • ptab t 4 [⟨q, 0, u⟩] 1 • emp)
  clear hX4
  generalize w4.alloc (.cells Q 67) = w5 at *
  generalize w4.heap.size = bo at *
  go_upto_region 7 with (fail)
  have HS := Lib.hid hs
  clear hM hs
  rcases hM7 with rfl | rfl | rfl | rfl | rfl | rfl | rfl | rfl
  · obtain ⟨o, ho⟩ : ∃ o : Qry, o = { q with port := bits .xor .i64 q.port 1 } := ⟨_, rfl⟩
    have hne : o ≠ q := by rw [ho]; exact fun e => xor_ne .i64 q.port (congrArg Qry.port e)
    have he : Q.setIfInBounds 34 (.int .i64 (bits .xor .i64 q.port 1)) = o.enc.toArray := by rw [← HQ.out, ho]; exact q.set34 0 _
    have d5 : w5.cell? ⟨w.heap.size, 34, none⟩ = some (.int .i64 q.port) := cell_heap hX.heap (by rw [← HQ.out, List.getElem?_toArray]; exact q.at34 0)
    obtain ⟨w6, hst, hS⟩ := one_store (o := 34) (ty := 3) (u := .int .i64 (bits .xor .i64 q.port 1)) hX.pull2 (by kernel_rfl) (by rw [← HQ.out]; simp [Qry.enc_length]) rfl rfl
    rw [he] at hS
    obtain ⟨k1, k2⟩ := once_other (q := q) (o := o) u hne
    obtain ⟨k3, k4⟩ := once_own q u
    have hct := fun (W : World) (hW : Sat w.heap.size w W (blk bo (.cells o.enc.toArray 67) • blk w.heap.size (.cells Q 67) • ptab t 4 [⟨q, 0, u⟩] 1 • emp)) => (pTake_any hW.pull3 o).mono (R' := fun e w' => e = .returned (.bool false) ∧ Sat w.heap.size w w' (blk bo (.cells o.enc.toArray 67) • blk w.heap.size (.cells Q 67) • ptab t 4 [⟨q, 0, u⟩] 1 • emp)) (by rintro e w' ⟨rfl, h⟩; rw [k1]; rw [k2] at h; exact ⟨rfl, h.to (by ac_rfl)⟩)
    have hch := fun (W : World) (hW : Sat w.heap.size w W (blk bo (.cells o.enc.toArray 67) • blk w.heap.size (.cells Q 67) • ptab t 4 [⟨q, 0, u⟩] 1 • emp)) => (pHas_any hW.pull3 q).mono (R' := fun e w' => e = .returned (.bool true) ∧ Sat w.heap.size w w' (blk bo (.cells o.enc.toArray 67) • blk w.heap.size (.cells Q 67) • ptab t 4 [⟨q, 0, u⟩] 1 • emp)) (by rintro e w' ⟨rfl, h⟩; rw [k3]; exact ⟨rfl, h.to (by ac_rfl)⟩)
    have hlo : ∀ W, W.heap[bo]? = some (.cells o.enc.toArray 67) → (Instr.loadAt 67 (.pointer (some ⟨bo, 0, none⟩))).run Tryd.prog W = .ok (.agg o.enc.toArray) W :=
      fun W h => run_loadAt_row h Tryd.underlying67 rfl (by rw [Qry.enc_length]; kernel_rfl) (fun j u hu => by simpa using hu)
    have HLO := Lib.hid hlo
    have HCT := Lib.hid hct
    simp only [HQ.out] at hch
    have HCH := Lib.hid hch
    clear hlo hct hch k1 k2 k3 k4 he ho hne hX
    clear HS
    go_wp2_with (refine wpList_store_run (t := 3) rfl rfl rfl rfl hst (stop_ ?_))
    unfold Stop
    clear hst d5
    generalize o.enc.toArray = OE at *
    go_upto_region 21 with (fail)
    refine wp_region_seq [(0, .pure), (1, .quiet), (2, .acts), (3, .pure), (4, .pure), (5, .quiet), (6, .acts), (7, .pure), (8, .pure)] (by kernel_rfl)
      (fun w' => Sat w.heap.size w w' (blk bo (.cells OE 67) • blk w.heap.size (.cells Q 67) • ptab t 4 [⟨q, 0, u⟩] 1 • emp)) hS ?_
    iterate 1 (refine ord_pure rfl rfl rfl (fun K' hK => ?_); go_big_quiet_op; refine hK _ ?_; clear hK K')
    refine ord_load (t := 67) rfl rfl rfl (p := .pointer (some ⟨bo, 0, none⟩)) (v := .agg OE) rfl (fun w' hC => HLO.out _ hC.heap) (fun K' hK => ?_)
    go_simp
    refine hK _ ?_
    clear hK K'
    refine ord_acts rfl rfl (fun K' hK => ?_)
    go_simp
    refine (HCT.out _ hS).mono ?_
    rintro e w7 ⟨rfl, hS7⟩
    refine hK _ _ (hS7) ?_
    clear hK K'
    go_simp
    iterate 2 (refine ord_pure rfl rfl rfl (fun K' hK => ?_); go_big_quiet_op; refine hK _ ?_; clear hK K')
    refine ord_load (t := 67) rfl rfl rfl (p := .pointer (some ⟨w.heap.size, 0, none⟩)) (v := .agg Q) rfl (fun w' hC => HLD.out _ hC.pull2.heap) (fun K' hK => ?_)
    go_simp
    refine hK _ ?_
    clear hK K'
    refine ord_acts rfl rfl (fun K' hK => ?_)
    go_simp
    refine (HCH.out _ hS7).mono ?_
    rintro e w8 ⟨rfl, hS8⟩
    refine hK _ _ (hS8) ?_
    clear hK K'
    go_simp
    iterate 2 (refine ord_pure rfl rfl rfl (fun K' hK => ?_); go_big_quiet_op; refine hK _ ?_; clear hK K')
    refine ord_nil ?_
    by_cases hun : u ≤ now
    · have cE := pExpire_any hS8.pull3 now
      rw [once_gone, if_pos hun] at cE
      rw [show (([⟨q, 0, u⟩] : List (Itm Qry)).length : Int) - ([] : List (Itm Qry)).length = 1 from rfl] at cE
      have hd : decide (u ≤ now) = true := decide_eq_true hun
      clear hun hS8 hS hS7
      go_wp2_with fail
      refine cE.mono ?_
      rintro e w9 ⟨rfl, hS9⟩
      have hl9 := HLD.out w9 hS9.pull3.heap
      have cT := pTake_any hS9 q
      rw [once_nil.1, List.filter_nil, HQ.out] at cT
      clear cE
      go_wp2_with (refine wpList_load_want (t := 67) rfl rfl rfl hl9 ?_)
      refine cT.mono ?_
      rintro e w10 ⟨rfl, hS10⟩
      have hl10 := HLD.out w10 hS10.pull3.heap
      have cU := pTake_any hS10 q
      rw [once_nil.1, List.filter_nil, HQ.out] at cU
      clear cT hl9 hS9
      go_wp2_with (refine wpList_load_want (t := 67) rfl rfl rfl hl10 ?_)
      refine cU.mono ?_
      rintro e w11 ⟨rfl, hS11⟩
      have cL := pLen_any hS11
      rw [show (([] : List (Itm Qry)).length : Int) = 0 from rfl] at cL
      have hb := hS11.below
      clear cU hl10 hS10 hS11
      go_wp2_with fail
      refine cL.mono ?_
      rintro e w12 ⟨rfl, hw12⟩
      clear cL
      go_wp2_with fail
      go_ret
      rw [← hw12]
      exact ⟨rfl, hb⟩
    · have cE := pExpire_any hS8.pull3 now
      rw [once_gone, if_neg hun] at cE
      rw [show (([⟨q, 0, u⟩] : List (Itm Qry)).length : Int) - ([⟨q, 0, u⟩] : List (Itm Qry)).length = 0 from rfl] at cE
      have hd : decide (u ≤ now) = false := decide_eq_false hun
      clear hun hS8 hS hS7
      go_wp2_with fail
      refine cE.mono ?_
      rintro e w9 ⟨rfl, hS9⟩
      have hl9 := HLD.out w9 hS9.pull3.heap
      have cT := pTake_any hS9 q
      rw [(once_own q u).1, (once_own q u).2, HQ.out] at cT
      clear cE
      go_wp2_with (refine wpList_load_want (t := 67) rfl rfl rfl hl9 ?_)
      refine cT.mono ?_
      rintro e w10 ⟨rfl, hS10⟩
      have hl10 := HLD.out w10 hS10.pull3.heap
      have cU := pTake_any hS10 q
      rw [once_nil.1, List.filter_nil, HQ.out] at cU
      clear cT hl9 hS9
      go_wp2_with (refine wpList_load_want (t := 67) rfl rfl rfl hl10 ?_)
      refine cU.mono ?_
      rintro e w11 ⟨rfl, hS11⟩
      have cL := pLen_any hS11
      rw [show (([] : List (Itm Qry)).length : Int) = 0 from rfl] at cL
      have hb := hS11.below
      clear cU hl10 hS10 hS11
      go_wp2_with fail
      refine cL.mono ?_
      rintro e w12 ⟨rfl, hw12⟩
      clear cL
      go_wp2_with fail
      go_ret
      rw [← hw12]
      exact ⟨rfl, hb⟩
  · obtain ⟨o, ho⟩ : ∃ o : Qry, o = { q with id := bits .xor .i64 q.id 1 } := ⟨_, rfl⟩
    have hne : o ≠ q := by rw [ho]; exact fun e => xor_ne .i64 q.id (congrArg Qry.id e)
    have he : Q.setIfInBounds 35 (.int .i64 (bits .xor .i64 q.id 1)) = o.enc.toArray := by rw [← HQ.out, ho]; exact q.set34 1 _
    have d5 : w5.cell? ⟨w.heap.size, 35, none⟩ = some (.int .i64 q.id) := cell_heap hX.heap (by rw [← HQ.out, List.getElem?_toArray]; exact q.at34 1)
    obtain ⟨w6, hst, hS⟩ := one_store (o := 35) (ty := 3) (u := .int .i64 (bits .xor .i64 q.id 1)) hX.pull2 (by kernel_rfl) (by rw [← HQ.out]; simp [Qry.enc_length]) rfl rfl
    rw [he] at hS
    obtain ⟨k1, k2⟩ := once_other (q := q) (o := o) u hne
    obtain ⟨k3, k4⟩ := once_own q u
    have hct := fun (W : World) (hW : Sat w.heap.size w W (blk bo (.cells o.enc.toArray 67) • blk w.heap.size (.cells Q 67) • ptab t 4 [⟨q, 0, u⟩] 1 • emp)) => (pTake_any hW.pull3 o).mono (R' := fun e w' => e = .returned (.bool false) ∧ Sat w.heap.size w w' (blk bo (.cells o.enc.toArray 67) • blk w.heap.size (.cells Q 67) • ptab t 4 [⟨q, 0, u⟩] 1 • emp)) (by rintro e w' ⟨rfl, h⟩; rw [k1]; rw [k2] at h; exact ⟨rfl, h.to (by ac_rfl)⟩)
    have hch := fun (W : World) (hW : Sat w.heap.size w W (blk bo (.cells o.enc.toArray 67) • blk w.heap.size (.cells Q 67) • ptab t 4 [⟨q, 0, u⟩] 1 • emp)) => (pHas_any hW.pull3 q).mono (R' := fun e w' => e = .returned (.bool true) ∧ Sat w.heap.size w w' (blk bo (.cells o.enc.toArray 67) • blk w.heap.size (.cells Q 67) • ptab t 4 [⟨q, 0, u⟩] 1 • emp)) (by rintro e w' ⟨rfl, h⟩; rw [k3]; exact ⟨rfl, h.to (by ac_rfl)⟩)
    have hlo : ∀ W, W.heap[bo]? = some (.cells o.enc.toArray 67) → (Instr.loadAt 67 (.pointer (some ⟨bo, 0, none⟩))).run Tryd.prog W = .ok (.agg o.enc.toArray) W :=
      fun W h => run_loadAt_row h Tryd.underlying67 rfl (by rw [Qry.enc_length]; kernel_rfl) (fun j u hu => by simpa using hu)
    have HLO := Lib.hid hlo
    have HCT := Lib.hid hct
    simp only [HQ.out] at hch
    have HCH := Lib.hid hch
    clear hlo hct hch k1 k2 k3 k4 he ho hne hX
    clear HS
    go_wp2_with (refine wpList_store_run (t := 3) rfl rfl rfl rfl hst (stop_ ?_))
    unfold Stop
    clear hst d5
    generalize o.enc.toArray = OE at *
    go_upto_region 21 with (fail)
    refine wp_region_seq [(0, .pure), (1, .quiet), (2, .acts), (3, .pure), (4, .pure), (5, .quiet), (6, .acts), (7, .pure), (8, .pure)] (by kernel_rfl)
      (fun w' => Sat w.heap.size w w' (blk bo (.cells OE 67) • blk w.heap.size (.cells Q 67) • ptab t 4 [⟨q, 0, u⟩] 1 • emp)) hS ?_
    iterate 1 (refine ord_pure rfl rfl rfl (fun K' hK => ?_); go_big_quiet_op; refine hK _ ?_; clear hK K')
    refine ord_load (t := 67) rfl rfl rfl (p := .pointer (some ⟨bo, 0, none⟩)) (v := .agg OE) rfl (fun w' hC => HLO.out _ hC.heap) (fun K' hK => ?_)
    go_simp
    refine hK _ ?_
    clear hK K'
    refine ord_acts rfl rfl (fun K' hK => ?_)
    go_simp
    refine (HCT.out _ hS).mono ?_
    rintro e w7 ⟨rfl, hS7⟩
    refine hK _ _ (hS7) ?_
    clear hK K'
    go_simp
    iterate 2 (refine ord_pure rfl rfl rfl (fun K' hK => ?_); go_big_quiet_op; refine hK _ ?_; clear hK K')
    refine ord_load (t := 67) rfl rfl rfl (p := .pointer (some ⟨w.heap.size, 0, none⟩)) (v := .agg Q) rfl (fun w' hC => HLD.out _ hC.pull2.heap) (fun K' hK => ?_)
    go_simp
    refine hK _ ?_
    clear hK K'
    refine ord_acts rfl rfl (fun K' hK => ?_)
    go_simp
    refine (HCH.out _ hS7).mono ?_
    rintro e w8 ⟨rfl, hS8⟩
    refine hK _ _ (hS8) ?_
    clear hK K'
    go_simp
    iterate 2 (refine ord_pure rfl rfl rfl (fun K' hK => ?_); go_big_quiet_op; refine hK _ ?_; clear hK K')
    refine ord_nil ?_
    by_cases hun : u ≤ now
    · have cE := pExpire_any hS8.pull3 now
      rw [once_gone, if_pos hun] at cE
      rw [show (([⟨q, 0, u⟩] : List (Itm Qry)).length : Int) - ([] : List (Itm Qry)).length = 1 from rfl] at cE
      have hd : decide (u ≤ now) = true := decide_eq_true hun
      clear hun hS8 hS hS7
      go_wp2_with fail
      refine cE.mono ?_
      rintro e w9 ⟨rfl, hS9⟩
      have hl9 := HLD.out w9 hS9.pull3.heap
      have cT := pTake_any hS9 q
      rw [once_nil.1, List.filter_nil, HQ.out] at cT
      clear cE
      go_wp2_with (refine wpList_load_want (t := 67) rfl rfl rfl hl9 ?_)
      refine cT.mono ?_
      rintro e w10 ⟨rfl, hS10⟩
      have hl10 := HLD.out w10 hS10.pull3.heap
      have cU := pTake_any hS10 q
      rw [once_nil.1, List.filter_nil, HQ.out] at cU
      clear cT hl9 hS9
      go_wp2_with (refine wpList_load_want (t := 67) rfl rfl rfl hl10 ?_)
      refine cU.mono ?_
      rintro e w11 ⟨rfl, hS11⟩
      have cL := pLen_any hS11
      rw [show (([] : List (Itm Qry)).length : Int) = 0 from rfl] at cL
      have hb := hS11.below
      clear cU hl10 hS10 hS11
      go_wp2_with fail
      refine cL.mono ?_
      rintro e w12 ⟨rfl, hw12⟩
      clear cL
      go_wp2_with fail
      go_ret
      rw [← hw12]
      exact ⟨rfl, hb⟩
    · have cE := pExpire_any hS8.pull3 now
      rw [once_gone, if_neg hun] at cE
      rw [show (([⟨q, 0, u⟩] : List (Itm Qry)).length : Int) - ([⟨q, 0, u⟩] : List (Itm Qry)).length = 0 from rfl] at cE
      have hd : decide (u ≤ now) = false := decide_eq_false hun
      clear hun hS8 hS hS7
      go_wp2_with fail
      refine cE.mono ?_
      rintro e w9 ⟨rfl, hS9⟩
      have hl9 := HLD.out w9 hS9.pull3.heap
      have cT := pTake_any hS9 q
      rw [(once_own q u).1, (once_own q u).2, HQ.out] at cT
      clear cE
      go_wp2_with (refine wpList_load_want (t := 67) rfl rfl rfl hl9 ?_)
      refine cT.mono ?_
      rintro e w10 ⟨rfl, hS10⟩
      have hl10 := HLD.out w10 hS10.pull3.heap
      have cU := pTake_any hS10 q
      rw [once_nil.1, List.filter_nil, HQ.out] at cU
      clear cT hl9 hS9
      go_wp2_with (refine wpList_load_want (t := 67) rfl rfl rfl hl10 ?_)
      refine cU.mono ?_
      rintro e w11 ⟨rfl, hS11⟩
      have cL := pLen_any hS11
      rw [show (([] : List (Itm Qry)).length : Int) = 0 from rfl] at cL
      have hb := hS11.below
      clear cU hl10 hS10 hS11
      go_wp2_with fail
      refine cL.mono ?_
      rintro e w12 ⟨rfl, hw12⟩
      clear cL
      go_wp2_with fail
      go_ret
      rw [← hw12]
      exact ⟨rfl, hb⟩
  · obtain ⟨o, ho⟩ : ∃ o : Qry, o = { q with qst := { q.qst with name := q.qst.name ++ ⟨#[120]⟩ } } := ⟨_, rfl⟩
    have hne : o ≠ q := by rw [ho]; exact fun e => name_ne q.qst.name (congrArg (fun x => x.qst.name) e)
    have he : Q.setIfInBounds 37 (.string (q.qst.name ++ ⟨#[120]⟩)) = o.enc.toArray := by rw [← HQ.out, ho]; exact q.set34 3 _
    have d5 : w5.cell? ⟨w.heap.size, 37, none⟩ = some (.string q.qst.name) := cell_heap hX.heap (by rw [← HQ.out, List.getElem?_toArray]; exact q.at34 3)
    obtain ⟨w6, hst, hS⟩ := one_store (o := 37) (ty := 9) (u := .string (q.qst.name ++ ⟨#[120]⟩)) hX.pull2 (by kernel_rfl) (by rw [← HQ.out]; simp [Qry.enc_length]) rfl rfl
    rw [he] at hS
    obtain ⟨k1, k2⟩ := once_other (q := q) (o := o) u hne
    obtain ⟨k3, k4⟩ := once_own q u
    have hct := fun (W : World) (hW : Sat w.heap.size w W (blk bo (.cells o.enc.toArray 67) • blk w.heap.size (.cells Q 67) • ptab t 4 [⟨q, 0, u⟩] 1 • emp)) => (pTake_any hW.pull3 o).mono (R' := fun e w' => e = .returned (.bool false) ∧ Sat w.heap.size w w' (blk bo (.cells o.enc.toArray 67) • blk w.heap.size (.cells Q 67) • ptab t 4 [⟨q, 0, u⟩] 1 • emp)) (by rintro e w' ⟨rfl, h⟩; rw [k1]; rw [k2] at h; exact ⟨rfl, h.to (by ac_rfl)⟩)
    have hch := fun (W : World) (hW : Sat w.heap.size w W (blk bo (.cells o.enc.toArray 67) • blk w.heap.size (.cells Q 67) • ptab t 4 [⟨q, 0, u⟩] 1 • emp)) => (pHas_any hW.pull3 q).mono (R' := fun e w' => e = .returned (.bool true) ∧ Sat w.heap.size w w' (blk bo (.cells o.enc.toArray 67) • blk w.heap.size (.cells Q 67) • ptab t 4 [⟨q, 0, u⟩] 1 • emp)) (by rintro e w' ⟨rfl, h⟩; rw [k3]; exact ⟨rfl, h.to (by ac_rfl)⟩)
    have hlo : ∀ W, W.heap[bo]? = some (.cells o.enc.toArray 67) → (Instr.loadAt 67 (.pointer (some ⟨bo, 0, none⟩))).run Tryd.prog W = .ok (.agg o.enc.toArray) W :=
      fun W h => run_loadAt_row h Tryd.underlying67 rfl (by rw [Qry.enc_length]; kernel_rfl) (fun j u hu => by simpa using hu)
    have HLO := Lib.hid hlo
    have HCT := Lib.hid hct
    simp only [HQ.out] at hch
    have HCH := Lib.hid hch
    clear hlo hct hch k1 k2 k3 k4 he ho hne hX
    have hs2 := HS.out
    go_wp2_with (refine wpList_store_run (t := 9) rfl rfl rfl rfl hst (stop_ ?_))
    unfold Stop
    clear hst d5
    generalize o.enc.toArray = OE at *
    go_upto_region 21 with (fail)
    refine wp_region_seq [(0, .pure), (1, .quiet), (2, .acts), (3, .pure), (4, .pure), (5, .quiet), (6, .acts), (7, .pure), (8, .pure)] (by kernel_rfl)
      (fun w' => Sat w.heap.size w w' (blk bo (.cells OE 67) • blk w.heap.size (.cells Q 67) • ptab t 4 [⟨q, 0, u⟩] 1 • emp)) hS ?_
    iterate 1 (refine ord_pure rfl rfl rfl (fun K' hK => ?_); go_big_quiet_op; refine hK _ ?_; clear hK K')
    refine ord_load (t := 67) rfl rfl rfl (p := .pointer (some ⟨bo, 0, none⟩)) (v := .agg OE) rfl (fun w' hC => HLO.out _ hC.heap) (fun K' hK => ?_)
    go_simp
    refine hK _ ?_
    clear hK K'
    refine ord_acts rfl rfl (fun K' hK => ?_)
    go_simp
    refine (HCT.out _ hS).mono ?_
    rintro e w7 ⟨rfl, hS7⟩
    refine hK _ _ (hS7) ?_
    clear hK K'
    go_simp
    iterate 2 (refine ord_pure rfl rfl rfl (fun K' hK => ?_); go_big_quiet_op; refine hK _ ?_; clear hK K')
    refine ord_load (t := 67) rfl rfl rfl (p := .pointer (some ⟨w.heap.size, 0, none⟩)) (v := .agg Q) rfl (fun w' hC => HLD.out _ hC.pull2.heap) (fun K' hK => ?_)
    go_simp
    refine hK _ ?_
    clear hK K'
    refine ord_acts rfl rfl (fun K' hK => ?_)
    go_simp
    refine (HCH.out _ hS7).mono ?_
    rintro e w8 ⟨rfl, hS8⟩
    refine hK _ _ (hS8) ?_
    clear hK K'
    go_simp
    iterate 2 (refine ord_pure rfl rfl rfl (fun K' hK => ?_); go_big_quiet_op; refine hK _ ?_; clear hK K')
    refine ord_nil ?_
    by_cases hun : u ≤ now
    · have cE := pExpire_any hS8.pull3 now
      rw [once_gone, if_pos hun] at cE
      rw [show (([⟨q, 0, u⟩] : List (Itm Qry)).length : Int) - ([] : List (Itm Qry)).length = 1 from rfl] at cE
      have hd : decide (u ≤ now) = true := decide_eq_true hun
      clear hun hS8 hS hS7
      go_wp2_with fail
      refine cE.mono ?_
      rintro e w9 ⟨rfl, hS9⟩
      have hl9 := HLD.out w9 hS9.pull3.heap
      have cT := pTake_any hS9 q
      rw [once_nil.1, List.filter_nil, HQ.out] at cT
      clear cE
      go_wp2_with (refine wpList_load_want (t := 67) rfl rfl rfl hl9 ?_)
      refine cT.mono ?_
      rintro e w10 ⟨rfl, hS10⟩
      have hl10 := HLD.out w10 hS10.pull3.heap
      have cU := pTake_any hS10 q
      rw [once_nil.1, List.filter_nil, HQ.out] at cU
      clear cT hl9 hS9
      go_wp2_with (refine wpList_load_want (t := 67) rfl rfl rfl hl10 ?_)
      refine cU.mono ?_
      rintro e w11 ⟨rfl, hS11⟩
      have cL := pLen_any hS11
      rw [show (([] : List (Itm Qry)).length : Int) = 0 from rfl] at cL
      have hb := hS11.below
      clear cU hl10 hS10 hS11
      go_wp2_with fail
      refine cL.mono ?_
      rintro e w12 ⟨rfl, hw12⟩
      clear cL
      go_wp2_with fail
      go_ret
      rw [← hw12]
      exact ⟨rfl, hb⟩
    · have cE := pExpire_any hS8.pull3 now
      rw [once_gone, if_neg hun] at cE
      rw [show (([⟨q, 0, u⟩] : List (Itm Qry)).length : Int) - ([⟨q, 0, u⟩] : List (Itm Qry)).length = 0 from rfl] at cE
      have hd : decide (u ≤ now) = false := decide_eq_false hun
      clear hun hS8 hS hS7
      go_wp2_with fail
      refine cE.mono ?_
      rintro e w9 ⟨rfl, hS9⟩
      have hl9 := HLD.out w9 hS9.pull3.heap
      have cT := pTake_any hS9 q
      rw [(once_own q u).1, (once_own q u).2, HQ.out] at cT
      clear cE
      go_wp2_with (refine wpList_load_want (t := 67) rfl rfl rfl hl9 ?_)
      refine cT.mono ?_
      rintro e w10 ⟨rfl, hS10⟩
      have hl10 := HLD.out w10 hS10.pull3.heap
      have cU := pTake_any hS10 q
      rw [once_nil.1, List.filter_nil, HQ.out] at cU
      clear cT hl9 hS9
      go_wp2_with (refine wpList_load_want (t := 67) rfl rfl rfl hl10 ?_)
      refine cU.mono ?_
      rintro e w11 ⟨rfl, hS11⟩
      have cL := pLen_any hS11
      rw [show (([] : List (Itm Qry)).length : Int) = 0 from rfl] at cL
      have hb := hS11.below
      clear cU hl10 hS10 hS11
      go_wp2_with fail
      refine cL.mono ?_
      rintro e w12 ⟨rfl, hw12⟩
      clear cL
      go_wp2_with fail
      go_ret
      rw [← hw12]
      exact ⟨rfl, hb⟩
  · obtain ⟨o, ho⟩ : ∃ o : Qry, o = { q with client := ⟨q.client.v6, q.client.b.set 0 (bits .xor .u8 (q.client.b.getD 0 0) 1), by simp [q.client.len]⟩ } := ⟨_, rfl⟩
    have hne : o ≠ q := by rw [ho]; exact fun e => set_ne q.client 0 (by decide) _ (xor_ne .u8 _) (congrArg (fun x => x.client.b) e)
    have he : Q.setIfInBounds 1 (.int .u8 (bits .xor .u8 (q.client.b.getD 0 0) 1)) = o.enc.toArray := by rw [← HQ.out, ho]; exact q.set0 0 (by decide) _
    have d5 : w5.cell? ⟨w.heap.size, 1, none⟩ = some (.int .u8 (q.client.b.getD 0 0)) := cell_heap hX.heap (by rw [← HQ.out, List.getElem?_toArray]; exact (q.at0 1 (by decide)).trans (b_get q.client 0 (by decide)))
    obtain ⟨w6, hst, hS⟩ := one_store (o := 1) (ty := 5) (u := .int .u8 (bits .xor .u8 (q.client.b.getD 0 0) 1)) hX.pull2 (by kernel_rfl) (by rw [← HQ.out]; simp [Qry.enc_length]) rfl rfl
    rw [he] at hS
    obtain ⟨k1, k2⟩ := once_other (q := q) (o := o) u hne
    obtain ⟨k3, k4⟩ := once_own q u
    have hct := fun (W : World) (hW : Sat w.heap.size w W (blk bo (.cells o.enc.toArray 67) • blk w.heap.size (.cells Q 67) • ptab t 4 [⟨q, 0, u⟩] 1 • emp)) => (pTake_any hW.pull3 o).mono (R' := fun e w' => e = .returned (.bool false) ∧ Sat w.heap.size w w' (blk bo (.cells o.enc.toArray 67) • blk w.heap.size (.cells Q 67) • ptab t 4 [⟨q, 0, u⟩] 1 • emp)) (by rintro e w' ⟨rfl, h⟩; rw [k1]; rw [k2] at h; exact ⟨rfl, h.to (by ac_rfl)⟩)
    have hch := fun (W : World) (hW : Sat w.heap.size w W (blk bo (.cells o.enc.toArray 67) • blk w.heap.size (.cells Q 67) • ptab t 4 [⟨q, 0, u⟩] 1 • emp)) => (pHas_any hW.pull3 q).mono (R' := fun e w' => e = .returned (.bool true) ∧ Sat w.heap.size w w' (blk bo (.cells o.enc.toArray 67) • blk w.heap.size (.cells Q 67) • ptab t 4 [⟨q, 0, u⟩] 1 • emp)) (by rintro e w' ⟨rfl, h⟩; rw [k3]; exact ⟨rfl, h.to (by ac_rfl)⟩)
    have hlo : ∀ W, W.heap[bo]? = some (.cells o.enc.toArray 67) → (Instr.loadAt 67 (.pointer (some ⟨bo, 0, none⟩))).run Tryd.prog W = .ok (.agg o.enc.toArray) W :=
      fun W h => run_loadAt_row h Tryd.underlying67 rfl (by rw [Qry.enc_length]; kernel_rfl) (fun j u hu => by simpa using hu)
    have HLO := Lib.hid hlo
    have HCT := Lib.hid hct
    simp only [HQ.out] at hch
    have HCH := Lib.hid hch
    clear hlo hct hch k1 k2 k3 k4 he ho hne hX
    clear HS
    go_wp2_with (refine wpList_store_run (t := 5) rfl rfl rfl rfl hst (stop_ ?_))
    unfold Stop
    clear hst d5
    generalize o.enc.toArray = OE at *
    go_upto_region 21 with (fail)
    refine wp_region_seq [(0, .pure), (1, .quiet), (2, .acts), (3, .pure), (4, .pure), (5, .quiet), (6, .acts), (7, .pure), (8, .pure)] (by kernel_rfl)
      (fun w' => Sat w.heap.size w w' (blk bo (.cells OE 67) • blk w.heap.size (.cells Q 67) • ptab t 4 [⟨q, 0, u⟩] 1 • emp)) hS ?_
    iterate 1 (refine ord_pure rfl rfl rfl (fun K' hK => ?_); go_big_quiet_op; refine hK _ ?_; clear hK K')
    refine ord_load (t := 67) rfl rfl rfl (p := .pointer (some ⟨bo, 0, none⟩)) (v := .agg OE) rfl (fun w' hC => HLO.out _ hC.heap) (fun K' hK => ?_)
    go_simp
    refine hK _ ?_
    clear hK K'
    refine ord_acts rfl rfl (fun K' hK => ?_)
    go_simp
    refine (HCT.out _ hS).mono ?_
    rintro e w7 ⟨rfl, hS7⟩
    refine hK _ _ (hS7) ?_
    clear hK K'
    go_simp
    iterate 2 (refine ord_pure rfl rfl rfl (fun K' hK => ?_); go_big_quiet_op; refine hK _ ?_; clear hK K')
    refine ord_load (t := 67) rfl rfl rfl (p := .pointer (some ⟨w.heap.size, 0, none⟩)) (v := .agg Q) rfl (fun w' hC => HLD.out _ hC.pull2.heap) (fun K' hK => ?_)
    go_simp
    refine hK _ ?_
    clear hK K'
    refine ord_acts rfl rfl (fun K' hK => ?_)
    go_simp
    refine (HCH.out _ hS7).mono ?_
    rintro e w8 ⟨rfl, hS8⟩
    refine hK _ _ (hS8) ?_
    clear hK K'
    go_simp
    iterate 2 (refine ord_pure rfl rfl rfl (fun K' hK => ?_); go_big_quiet_op; refine hK _ ?_; clear hK K')
    refine ord_nil ?_
    by_cases hun : u ≤ now
    · have cE := pExpire_any hS8.pull3 now
      rw [once_gone, if_pos hun] at cE
      rw [show (([⟨q, 0, u⟩] : List (Itm Qry)).length : Int) - ([] : List (Itm Qry)).length = 1 from rfl] at cE
      have hd : decide (u ≤ now) = true := decide_eq_true hun
      clear hun hS8 hS hS7
      go_wp2_with fail
      refine cE.mono ?_
      rintro e w9 ⟨rfl, hS9⟩
      have hl9 := HLD.out w9 hS9.pull3.heap
      have cT := pTake_any hS9 q
      rw [once_nil.1, List.filter_nil, HQ.out] at cT
      clear cE
      go_wp2_with (refine wpList_load_want (t := 67) rfl rfl rfl hl9 ?_)
      refine cT.mono ?_
      rintro e w10 ⟨rfl, hS10⟩
      have hl10 := HLD.out w10 hS10.pull3.heap
      have cU := pTake_any hS10 q
      rw [once_nil.1, List.filter_nil, HQ.out] at cU
      clear cT hl9 hS9
      go_wp2_with (refine wpList_load_want (t := 67) rfl rfl rfl hl10 ?_)
      refine cU.mono ?_
      rintro e w11 ⟨rfl, hS11⟩
      have cL := pLen_any hS11
      rw [show (([] : List (Itm Qry)).length : Int) = 0 from rfl] at cL
      have hb := hS11.below
      clear cU hl10 hS10 hS11
      go_wp2_with fail
      refine cL.mono ?_
      rintro e w12 ⟨rfl, hw12⟩
      clear cL
      go_wp2_with fail
      go_ret
      rw [← hw12]
      exact ⟨rfl, hb⟩
    · have cE := pExpire_any hS8.pull3 now
      rw [once_gone, if_neg hun] at cE
      rw [show (([⟨q, 0, u⟩] : List (Itm Qry)).length : Int) - ([⟨q, 0, u⟩] : List (Itm Qry)).length = 0 from rfl] at cE
      have hd : decide (u ≤ now) = false := decide_eq_false hun
      clear hun hS8 hS hS7
      go_wp2_with fail
      refine cE.mono ?_
      rintro e w9 ⟨rfl, hS9⟩
      have hl9 := HLD.out w9 hS9.pull3.heap
      have cT := pTake_any hS9 q
      rw [(once_own q u).1, (once_own q u).2, HQ.out] at cT
      clear cE
      go_wp2_with (refine wpList_load_want (t := 67) rfl rfl rfl hl9 ?_)
      refine cT.mono ?_
      rintro e w10 ⟨rfl, hS10⟩
      have hl10 := HLD.out w10 hS10.pull3.heap
      have cU := pTake_any hS10 q
      rw [once_nil.1, List.filter_nil, HQ.out] at cU
      clear cT hl9 hS9
      go_wp2_with (refine wpList_load_want (t := 67) rfl rfl rfl hl10 ?_)
      refine cU.mono ?_
      rintro e w11 ⟨rfl, hS11⟩
      have cL := pLen_any hS11
      rw [show (([] : List (Itm Qry)).length : Int) = 0 from rfl] at cL
      have hb := hS11.below
      clear cU hl10 hS10 hS11
      go_wp2_with fail
      refine cL.mono ?_
      rintro e w12 ⟨rfl, hw12⟩
      clear cL
      go_wp2_with fail
      go_ret
      rw [← hw12]
      exact ⟨rfl, hb⟩
  · obtain ⟨o, ho⟩ : ∃ o : Qry, o = { q with server := ⟨q.server.v6, q.server.b.set 3 (bits .xor .u8 (q.server.b.getD 3 0) 1), by simp [q.server.len]⟩ } := ⟨_, rfl⟩
    have hne : o ≠ q := by rw [ho]; exact fun e => set_ne q.server 3 (by decide) _ (xor_ne .u8 _) (congrArg (fun x => x.server.b) e)
    have he : Q.setIfInBounds 21 (.int .u8 (bits .xor .u8 (q.server.b.getD 3 0) 1)) = o.enc.toArray := by rw [← HQ.out, ho]; exact q.set17 3 (by decide) _
    have d5 : w5.cell? ⟨w.heap.size, 21, none⟩ = some (.int .u8 (q.server.b.getD 3 0)) := cell_heap hX.heap (by rw [← HQ.out, List.getElem?_toArray]; exact (q.at17 4 (by decide)).trans (b_get q.server 3 (by decide)))
    obtain ⟨w6, hst, hS⟩ := one_store (o := 21) (ty := 5) (u := .int .u8 (bits .xor .u8 (q.server.b.getD 3 0) 1)) hX.pull2 (by kernel_rfl) (by rw [← HQ.out]; simp [Qry.enc_length]) rfl rfl
    rw [he] at hS
    obtain ⟨k1, k2⟩ := once_other (q := q) (o := o) u hne
    obtain ⟨k3, k4⟩ := once_own q u
    have hct := fun (W : World) (hW : Sat w.heap.size w W (blk bo (.cells o.enc.toArray 67) • blk w.heap.size (.cells Q 67) • ptab t 4 [⟨q, 0, u⟩] 1 • emp)) => (pTake_any hW.pull3 o).mono (R' := fun e w' => e = .returned (.bool false) ∧ Sat w.heap.size w w' (blk bo (.cells o.enc.toArray 67) • blk w.heap.size (.cells Q 67) • ptab t 4 [⟨q, 0, u⟩] 1 • emp)) (by rintro e w' ⟨rfl, h⟩; rw [k1]; rw [k2] at h; exact ⟨rfl, h.to (by ac_rfl)⟩)
    have hch := fun (W : World) (hW : Sat w.heap.size w W (blk bo (.cells o.enc.toArray 67) • blk w.heap.size (.cells Q 67) • ptab t 4 [⟨q, 0, u⟩] 1 • emp)) => (pHas_any hW.pull3 q).mono (R' := fun e w' => e = .returned (.bool true) ∧ Sat w.heap.size w w' (blk bo (.cells o.enc.toArray 67) • blk w.heap.size (.cells Q 67) • ptab t 4 [⟨q, 0, u⟩] 1 • emp)) (by rintro e w' ⟨rfl, h⟩; rw [k3]; exact ⟨rfl, h.to (by ac_rfl)⟩)
    have hlo : ∀ W, W.heap[bo]? = some (.cells o.enc.toArray 67) → (Instr.loadAt 67 (.pointer (some ⟨bo, 0, none⟩))).run Tryd.prog W = .ok (.agg o.enc.toArray) W :=
      fun W h => run_loadAt_row h Tryd.underlying67 rfl (by rw [Qry.enc_length]; kernel_rfl) (fun j u hu => by simpa using hu)
    have HLO := Lib.hid hlo
    have HCT := Lib.hid hct
    simp only [HQ.out] at hch
    have HCH := Lib.hid hch
    clear hlo hct hch k1 k2 k3 k4 he ho hne hX
    clear HS
    go_wp2_with (refine wpList_store_run (t := 5) rfl rfl rfl rfl hst (stop_ ?_))
    unfold Stop
    clear hst d5
    generalize o.enc.toArray = OE at *
    go_upto_region 21 with (fail)
    refine wp_region_seq [(0, .pure), (1, .quiet), (2, .acts), (3, .pure), (4, .pure), (5, .quiet), (6, .acts), (7, .pure), (8, .pure)] (by kernel_rfl)
      (fun w' => Sat w.heap.size w w' (blk bo (.cells OE 67) • blk w.heap.size (.cells Q 67) • ptab t 4 [⟨q, 0, u⟩] 1 • emp)) hS ?_
    iterate 1 (refine ord_pure rfl rfl rfl (fun K' hK => ?_); go_big_quiet_op; refine hK _ ?_; clear hK K')
    refine ord_load (t := 67) rfl rfl rfl (p := .pointer (some ⟨bo, 0, none⟩)) (v := .agg OE) rfl (fun w' hC => HLO.out _ hC.heap) (fun K' hK => ?_)
    go_simp
    refine hK _ ?_
    clear hK K'
    refine ord_acts rfl rfl (fun K' hK => ?_)
    go_simp
    refine (HCT.out _ hS).mono ?_
    rintro e w7 ⟨rfl, hS7⟩
    refine hK _ _ (hS7) ?_
    clear hK K'
    go_simp
    iterate 2 (refine ord_pure rfl rfl rfl (fun K' hK => ?_); go_big_quiet_op; refine hK _ ?_; clear hK K')
    refine ord_load (t := 67) rfl rfl rfl (p := .pointer (some ⟨w.heap.size, 0, none⟩)) (v := .agg Q) rfl (fun w' hC => HLD.out _ hC.pull2.heap) (fun K' hK => ?_)
    go_simp
    refine hK _ ?_
    clear hK K'
    refine ord_acts rfl rfl (fun K' hK => ?_)
    go_simp
    refine (HCH.out _ hS7).mono ?_
    rintro e w8 ⟨rfl, hS8⟩
    refine hK _ _ (hS8) ?_
    clear hK K'
    go_simp
    iterate 2 (refine ord_pure rfl rfl rfl (fun K' hK => ?_); go_big_quiet_op; refine hK _ ?_; clear hK K')
    refine ord_nil ?_
    by_cases hun : u ≤ now
    · have cE := pExpire_any hS8.pull3 now
      rw [once_gone, if_pos hun] at cE
      rw [show (([⟨q, 0, u⟩] : List (Itm Qry)).length : Int) - ([] : List (Itm Qry)).length = 1 from rfl] at cE
      have hd : decide (u ≤ now) = true := decide_eq_true hun
      clear hun hS8 hS hS7
      go_wp2_with fail
      refine cE.mono ?_
      rintro e w9 ⟨rfl, hS9⟩
      have hl9 := HLD.out w9 hS9.pull3.heap
      have cT := pTake_any hS9 q
      rw [once_nil.1, List.filter_nil, HQ.out] at cT
      clear cE
      go_wp2_with (refine wpList_load_want (t := 67) rfl rfl rfl hl9 ?_)
      refine cT.mono ?_
      rintro e w10 ⟨rfl, hS10⟩
      have hl10 := HLD.out w10 hS10.pull3.heap
      have cU := pTake_any hS10 q
      rw [once_nil.1, List.filter_nil, HQ.out] at cU
      clear cT hl9 hS9
      go_wp2_with (refine wpList_load_want (t := 67) rfl rfl rfl hl10 ?_)
      refine cU.mono ?_
      rintro e w11 ⟨rfl, hS11⟩
      have cL := pLen_any hS11
      rw [show (([] : List (Itm Qry)).length : Int) = 0 from rfl] at cL
      have hb := hS11.below
      clear cU hl10 hS10 hS11
      go_wp2_with fail
      refine cL.mono ?_
      rintro e w12 ⟨rfl, hw12⟩
      clear cL
      go_wp2_with fail
      go_ret
      rw [← hw12]
      exact ⟨rfl, hb⟩
    · have cE := pExpire_any hS8.pull3 now
      rw [once_gone, if_neg hun] at cE
      rw [show (([⟨q, 0, u⟩] : List (Itm Qry)).length : Int) - ([⟨q, 0, u⟩] : List (Itm Qry)).length = 0 from rfl] at cE
      have hd : decide (u ≤ now) = false := decide_eq_false hun
      clear hun hS8 hS hS7
      go_wp2_with fail
      refine cE.mono ?_
      rintro e w9 ⟨rfl, hS9⟩
      have hl9 := HLD.out w9 hS9.pull3.heap
      have cT := pTake_any hS9 q
      rw [(once_own q u).1, (once_own q u).2, HQ.out] at cT
      clear cE
      go_wp2_with (refine wpList_load_want (t := 67) rfl rfl rfl hl9 ?_)
      refine cT.mono ?_
      rintro e w10 ⟨rfl, hS10⟩
      have hl10 := HLD.out w10 hS10.pull3.heap
      have cU := pTake_any hS10 q
      rw [once_nil.1, List.filter_nil, HQ.out] at cU
      clear cT hl9 hS9
      go_wp2_with (refine wpList_load_want (t := 67) rfl rfl rfl hl10 ?_)
      refine cU.mono ?_
      rintro e w11 ⟨rfl, hS11⟩
      have cL := pLen_any hS11
      rw [show (([] : List (Itm Qry)).length : Int) = 0 from rfl] at cL
      have hb := hS11.below
      clear cU hl10 hS10 hS11
      go_wp2_with fail
      refine cL.mono ?_
      rintro e w12 ⟨rfl, hw12⟩
      clear cL
      go_wp2_with fail
      go_ret
      rw [← hw12]
      exact ⟨rfl, hb⟩
  · obtain ⟨o, ho⟩ : ∃ o : Qry, o = { q with tcp := !q.tcp } := ⟨_, rfl⟩
    have hne : o ≠ q := by rw [ho]; exact fun e => by have := congrArg Qry.tcp e; simp at this
    have he : Q.setIfInBounds 36 (.bool (!q.tcp)) = o.enc.toArray := by rw [← HQ.out, ho]; exact q.set34 2 _
    have d5 : w5.cell? ⟨w.heap.size, 36, none⟩ = some (.bool q.tcp) := cell_heap hX.heap (by rw [← HQ.out, List.getElem?_toArray]; exact q.at34 2)
    obtain ⟨w6, hst, hS⟩ := one_store (o := 36) (ty := 4) (u := .bool (!q.tcp)) hX.pull2 (by kernel_rfl) (by rw [← HQ.out]; simp [Qry.enc_length]) rfl rfl
    rw [he] at hS
    obtain ⟨k1, k2⟩ := once_other (q := q) (o := o) u hne
    obtain ⟨k3, k4⟩ := once_own q u
    have hct := fun (W : World) (hW : Sat w.heap.size w W (blk bo (.cells o.enc.toArray 67) • blk w.heap.size (.cells Q 67) • ptab t 4 [⟨q, 0, u⟩] 1 • emp)) => (pTake_any hW.pull3 o).mono (R' := fun e w' => e = .returned (.bool false) ∧ Sat w.heap.size w w' (blk bo (.cells o.enc.toArray 67) • blk w.heap.size (.cells Q 67) • ptab t 4 [⟨q, 0, u⟩] 1 • emp)) (by rintro e w' ⟨rfl, h⟩; rw [k1]; rw [k2] at h; exact ⟨rfl, h.to (by ac_rfl)⟩)
    have hch := fun (W : World) (hW : Sat w.heap.size w W (blk bo (.cells o.enc.toArray 67) • blk w.heap.size (.cells Q 67) • ptab t 4 [⟨q, 0, u⟩] 1 • emp)) => (pHas_any hW.pull3 q).mono (R' := fun e w' => e = .returned (.bool true) ∧ Sat w.heap.size w w' (blk bo (.cells o.enc.toArray 67) • blk w.heap.size (.cells Q 67) • ptab t 4 [⟨q, 0, u⟩] 1 • emp)) (by rintro e w' ⟨rfl, h⟩; rw [k3]; exact ⟨rfl, h.to (by ac_rfl)⟩)
    have hlo : ∀ W, W.heap[bo]? = some (.cells o.enc.toArray 67) → (Instr.loadAt 67 (.pointer (some ⟨bo, 0, none⟩))).run Tryd.prog W = .ok (.agg o.enc.toArray) W :=
      fun W h => run_loadAt_row h Tryd.underlying67 rfl (by rw [Qry.enc_length]; kernel_rfl) (fun j u hu => by simpa using hu)
    have HLO := Lib.hid hlo
    have HCT := Lib.hid hct
    simp only [HQ.out] at hch
    have HCH := Lib.hid hch
    clear hlo hct hch k1 k2 k3 k4 he ho hne hX
    clear HS
    go_wp2_with (refine wpList_store_run (t := 4) rfl rfl rfl rfl hst (stop_ ?_))
    unfold Stop
    clear hst d5
    generalize o.enc.toArray = OE at *
    go_upto_region 21 with (fail)
    refine wp_region_seq [(0, .pure), (1, .quiet), (2, .acts), (3, .pure), (4, .pure), (5, .quiet), (6, .acts), (7, .pure), (8, .pure)] (by kernel_rfl)
      (fun w' => Sat w.heap.size w w' (blk bo (.cells OE 67) • blk w.heap.size (.cells Q 67) • ptab t 4 [⟨q, 0, u⟩] 1 • emp)) hS ?_
    iterate 1 (refine ord_pure rfl rfl rfl (fun K' hK => ?_); go_big_quiet_op; refine hK _ ?_; clear hK K')
    refine ord_load (t := 67) rfl rfl rfl (p := .pointer (some ⟨bo, 0, none⟩)) (v := .agg OE) rfl (fun w' hC => HLO.out _ hC.heap) (fun K' hK => ?_)
    go_simp
    refine hK _ ?_
    clear hK K'
    refine ord_acts rfl rfl (fun K' hK => ?_)
    go_simp
    refine (HCT.out _ hS).mono ?_
    rintro e w7 ⟨rfl, hS7⟩
    refine hK _ _ (hS7) ?_
    clear hK K'
    go_simp
    iterate 2 (refine ord_pure rfl rfl rfl (fun K' hK => ?_); go_big_quiet_op; refine hK _ ?_; clear hK K')
    refine ord_load (t := 67) rfl rfl rfl (p := .pointer (some ⟨w.heap.size, 0, none⟩)) (v := .agg Q) rfl (fun w' hC => HLD.out _ hC.pull2.heap) (fun K' hK => ?_)
    go_simp
    refine hK _ ?_
    clear hK K'
    refine ord_acts rfl rfl (fun K' hK => ?_)
    go_simp
    refine (HCH.out _ hS7).mono ?_
    rintro e w8 ⟨rfl, hS8⟩
    refine hK _ _ (hS8) ?_
    clear hK K'
    go_simp
    iterate 2 (refine ord_pure rfl rfl rfl (fun K' hK => ?_); go_big_quiet_op; refine hK _ ?_; clear hK K')
    refine ord_nil ?_
    by_cases hun : u ≤ now
    · have cE := pExpire_any hS8.pull3 now
      rw [once_gone, if_pos hun] at cE
      rw [show (([⟨q, 0, u⟩] : List (Itm Qry)).length : Int) - ([] : List (Itm Qry)).length = 1 from rfl] at cE
      have hd : decide (u ≤ now) = true := decide_eq_true hun
      clear hun hS8 hS hS7
      go_wp2_with fail
      refine cE.mono ?_
      rintro e w9 ⟨rfl, hS9⟩
      have hl9 := HLD.out w9 hS9.pull3.heap
      have cT := pTake_any hS9 q
      rw [once_nil.1, List.filter_nil, HQ.out] at cT
      clear cE
      go_wp2_with (refine wpList_load_want (t := 67) rfl rfl rfl hl9 ?_)
      refine cT.mono ?_
      rintro e w10 ⟨rfl, hS10⟩
      have hl10 := HLD.out w10 hS10.pull3.heap
      have cU := pTake_any hS10 q
      rw [once_nil.1, List.filter_nil, HQ.out] at cU
      clear cT hl9 hS9
      go_wp2_with (refine wpList_load_want (t := 67) rfl rfl rfl hl10 ?_)
      refine cU.mono ?_
      rintro e w11 ⟨rfl, hS11⟩
      have cL := pLen_any hS11
      rw [show (([] : List (Itm Qry)).length : Int) = 0 from rfl] at cL
      have hb := hS11.below
      clear cU hl10 hS10 hS11
      go_wp2_with fail
      refine cL.mono ?_
      rintro e w12 ⟨rfl, hw12⟩
      clear cL
      go_wp2_with fail
      go_ret
      rw [← hw12]
      exact ⟨rfl, hb⟩
    · have cE := pExpire_any hS8.pull3 now
      rw [once_gone, if_neg hun] at cE
      rw [show (([⟨q, 0, u⟩] : List (Itm Qry)).length : Int) - ([⟨q, 0, u⟩] : List (Itm Qry)).length = 0 from rfl] at cE
      have hd : decide (u ≤ now) = false := decide_eq_false hun
      clear hun hS8 hS hS7
      go_wp2_with fail
      refine cE.mono ?_
      rintro e w9 ⟨rfl, hS9⟩
      have hl9 := HLD.out w9 hS9.pull3.heap
      have cT := pTake_any hS9 q
      rw [(once_own q u).1, (once_own q u).2, HQ.out] at cT
      clear cE
      go_wp2_with (refine wpList_load_want (t := 67) rfl rfl rfl hl9 ?_)
      refine cT.mono ?_
      rintro e w10 ⟨rfl, hS10⟩
      have hl10 := HLD.out w10 hS10.pull3.heap
      have cU := pTake_any hS10 q
      rw [once_nil.1, List.filter_nil, HQ.out] at cU
      clear cT hl9 hS9
      go_wp2_with (refine wpList_load_want (t := 67) rfl rfl rfl hl10 ?_)
      refine cU.mono ?_
      rintro e w11 ⟨rfl, hS11⟩
      have cL := pLen_any hS11
      rw [show (([] : List (Itm Qry)).length : Int) = 0 from rfl] at cL
      have hb := hS11.below
      clear cU hl10 hS10 hS11
      go_wp2_with fail
      refine cL.mono ?_
      rintro e w12 ⟨rfl, hw12⟩
      clear cL
      go_wp2_with fail
      go_ret
      rw [← hw12]
      exact ⟨rfl, hb⟩
  · obtain ⟨o, ho⟩ : ∃ o : Qry, o = { q with qst := { q.qst with typ := bits .xor .i64 q.qst.typ 1 } } := ⟨_, rfl⟩
    have hne : o ≠ q := by rw [ho]; exact fun e => xor_ne .i64 q.qst.typ (congrArg (fun x => x.qst.typ) e)
    have he : Q.setIfInBounds 38 (.int .i64 (bits .xor .i64 q.qst.typ 1)) = o.enc.toArray := by rw [← HQ.out, ho]; exact q.set34 4 _
    have d5 : w5.cell? ⟨w.heap.size, 38, none⟩ = some (.int .i64 q.qst.typ) := cell_heap hX.heap (by rw [← HQ.out, List.getElem?_toArray]; exact q.at34 4)
    obtain ⟨w6, hst, hS⟩ := one_store (o := 38) (ty := 3) (u := .int .i64 (bits .xor .i64 q.qst.typ 1)) hX.pull2 (by kernel_rfl) (by rw [← HQ.out]; simp [Qry.enc_length]) rfl rfl
    rw [he] at hS
    obtain ⟨k1, k2⟩ := once_other (q := q) (o := o) u hne
    obtain ⟨k3, k4⟩ := once_own q u
    have hct := fun (W : World) (hW : Sat w.heap.size w W (blk bo (.cells o.enc.toArray 67) • blk w.heap.size (.cells Q 67) • ptab t 4 [⟨q, 0, u⟩] 1 • emp)) => (pTake_any hW.pull3 o).mono (R' := fun e w' => e = .returned (.bool false) ∧ Sat w.heap.size w w' (blk bo (.cells o.enc.toArray 67) • blk w.heap.size (.cells Q 67) • ptab t 4 [⟨q, 0, u⟩] 1 • emp)) (by rintro e w' ⟨rfl, h⟩; rw [k1]; rw [k2] at h; exact ⟨rfl, h.to (by ac_rfl)⟩)
    have hch := fun (W : World) (hW : Sat w.heap.size w W (blk bo (.cells o.enc.toArray 67) • blk w.heap.size (.cells Q 67) • ptab t 4 [⟨q, 0, u⟩] 1 • emp)) => (pHas_any hW.pull3 q).mono (R' := fun e w' => e = .returned (.bool true) ∧ Sat w.heap.size w w' (blk bo (.cells o.enc.toArray 67) • blk w.heap.size (.cells Q 67) • ptab t 4 [⟨q, 0, u⟩] 1 • emp)) (by rintro e w' ⟨rfl, h⟩; rw [k3]; exact ⟨rfl, h.to (by ac_rfl)⟩)
    have hlo : ∀ W, W.heap[bo]? = some (.cells o.enc.toArray 67) → (Instr.loadAt 67 (.pointer (some ⟨bo, 0, none⟩))).run Tryd.prog W = .ok (.agg o.enc.toArray) W :=
      fun W h => run_loadAt_row h Tryd.underlying67 rfl (by rw [Qry.enc_length]; kernel_rfl) (fun j u hu => by simpa using hu)
    have HLO := Lib.hid hlo
    have HCT := Lib.hid hct
    simp only [HQ.out] at hch
    have HCH := Lib.hid hch
    clear hlo hct hch k1 k2 k3 k4 he ho hne hX
    clear HS
    go_wp2_with (refine wpList_store_run (t := 3) rfl rfl rfl rfl hst (stop_ ?_))
    unfold Stop
    clear hst d5
    generalize o.enc.toArray = OE at *
    go_upto_region 21 with (fail)
    refine wp_region_seq [(0, .pure), (1, .quiet), (2, .acts), (3, .pure), (4, .pure), (5, .quiet), (6, .acts), (7, .pure), (8, .pure)] (by kernel_rfl)
      (fun w' => Sat w.heap.size w w' (blk bo (.cells OE 67) • blk w.heap.size (.cells Q 67) • ptab t 4 [⟨q, 0, u⟩] 1 • emp)) hS ?_
    iterate 1 (refine ord_pure rfl rfl rfl (fun K' hK => ?_); go_big_quiet_op; refine hK _ ?_; clear hK K')
    refine ord_load (t := 67) rfl rfl rfl (p := .pointer (some ⟨bo, 0, none⟩)) (v := .agg OE) rfl (fun w' hC => HLO.out _ hC.heap) (fun K' hK => ?_)
    go_simp
    refine hK _ ?_
    clear hK K'
    refine ord_acts rfl rfl (fun K' hK => ?_)
    go_simp
    refine (HCT.out _ hS).mono ?_
    rintro e w7 ⟨rfl, hS7⟩
    refine hK _ _ (hS7) ?_
    clear hK K'
    go_simp
    iterate 2 (refine ord_pure rfl rfl rfl (fun K' hK => ?_); go_big_quiet_op; refine hK _ ?_; clear hK K')
    refine ord_load (t := 67) rfl rfl rfl (p := .pointer (some ⟨w.heap.size, 0, none⟩)) (v := .agg Q) rfl (fun w' hC => HLD.out _ hC.pull2.heap) (fun K' hK => ?_)
    go_simp
    refine hK _ ?_
    clear hK K'
    refine ord_acts rfl rfl (fun K' hK => ?_)
    go_simp
    refine (HCH.out _ hS7).mono ?_
    rintro e w8 ⟨rfl, hS8⟩
    refine hK _ _ (hS8) ?_
    clear hK K'
    go_simp
    iterate 2 (refine ord_pure rfl rfl rfl (fun K' hK => ?_); go_big_quiet_op; refine hK _ ?_; clear hK K')
    refine ord_nil ?_
    by_cases hun : u ≤ now
    · have cE := pExpire_any hS8.pull3 now
      rw [once_gone, if_pos hun] at cE
      rw [show (([⟨q, 0, u⟩] : List (Itm Qry)).length : Int) - ([] : List (Itm Qry)).length = 1 from rfl] at cE
      have hd : decide (u ≤ now) = true := decide_eq_true hun
      clear hun hS8 hS hS7
      go_wp2_with fail
      refine cE.mono ?_
      rintro e w9 ⟨rfl, hS9⟩
      have hl9 := HLD.out w9 hS9.pull3.heap
      have cT := pTake_any hS9 q
      rw [once_nil.1, List.filter_nil, HQ.out] at cT
      clear cE
      go_wp2_with (refine wpList_load_want (t := 67) rfl rfl rfl hl9 ?_)
      refine cT.mono ?_
      rintro e w10 ⟨rfl, hS10⟩
      have hl10 := HLD.out w10 hS10.pull3.heap
      have cU := pTake_any hS10 q
      rw [once_nil.1, List.filter_nil, HQ.out] at cU
      clear cT hl9 hS9
      go_wp2_with (refine wpList_load_want (t := 67) rfl rfl rfl hl10 ?_)
      refine cU.mono ?_
      rintro e w11 ⟨rfl, hS11⟩
      have cL := pLen_any hS11
      rw [show (([] : List (Itm Qry)).length : Int) = 0 from rfl] at cL
      have hb := hS11.below
      clear cU hl10 hS10 hS11
      go_wp2_with fail
      refine cL.mono ?_
      rintro e w12 ⟨rfl, hw12⟩
      clear cL
      go_wp2_with fail
      go_ret
      rw [← hw12]
      exact ⟨rfl, hb⟩
    · have cE := pExpire_any hS8.pull3 now
      rw [once_gone, if_neg hun] at cE
      rw [show (([⟨q, 0, u⟩] : List (Itm Qry)).length : Int) - ([⟨q, 0, u⟩] : List (Itm Qry)).length = 0 from rfl] at cE
      have hd : decide (u ≤ now) = false := decide_eq_false hun
      clear hun hS8 hS hS7
      go_wp2_with fail
      refine cE.mono ?_
      rintro e w9 ⟨rfl, hS9⟩
      have hl9 := HLD.out w9 hS9.pull3.heap
      have cT := pTake_any hS9 q
      rw [(once_own q u).1, (once_own q u).2, HQ.out] at cT
      clear cE
      go_wp2_with (refine wpList_load_want (t := 67) rfl rfl rfl hl9 ?_)
      refine cT.mono ?_
      rintro e w10 ⟨rfl, hS10⟩
      have hl10 := HLD.out w10 hS10.pull3.heap
      have cU := pTake_any hS10 q
      rw [once_nil.1, List.filter_nil, HQ.out] at cU
      clear cT hl9 hS9
      go_wp2_with (refine wpList_load_want (t := 67) rfl rfl rfl hl10 ?_)
      refine cU.mono ?_
      rintro e w11 ⟨rfl, hS11⟩
      have cL := pLen_any hS11
      rw [show (([] : List (Itm Qry)).length : Int) = 0 from rfl] at cL
      have hb := hS11.below
      clear cU hl10 hS10 hS11
      go_wp2_with fail
      refine cL.mono ?_
      rintro e w12 ⟨rfl, hw12⟩
      clear cL
      go_wp2_with fail
      go_ret
      rw [← hw12]
      exact ⟨rfl, hb⟩
  · obtain ⟨o, ho⟩ : ∃ o : Qry, o = { q with qst := { q.qst with cls := bits .xor .i64 q.qst.cls 1 } } := ⟨_, rfl⟩
    have hne : o ≠ q := by rw [ho]; exact fun e => xor_ne .i64 q.qst.cls (congrArg (fun x => x.qst.cls) e)
    have he : Q.setIfInBounds 39 (.int .i64 (bits .xor .i64 q.qst.cls 1)) = o.enc.toArray := by rw [← HQ.out, ho]; exact q.set34 5 _
    have d5 : w5.cell? ⟨w.heap.size, 39, none⟩ = some (.int .i64 q.qst.cls) := cell_heap hX.heap (by rw [← HQ.out, List.getElem?_toArray]; exact q.at34 5)
    obtain ⟨w6, hst, hS⟩ := one_store (o := 39) (ty := 3) (u := .int .i64 (bits .xor .i64 q.qst.cls 1)) hX.pull2 (by kernel_rfl) (by rw [← HQ.out]; simp [Qry.enc_length]) rfl rfl
    rw [he] at hS
    obtain ⟨k1, k2⟩ := once_other (q := q) (o := o) u hne
    obtain ⟨k3, k4⟩ := once_own q u
    have hct := fun (W : World) (hW : Sat w.heap.size w W (blk bo (.cells o.enc.toArray 67) • blk w.heap.size (.cells Q 67) • ptab t 4 [⟨q, 0, u⟩] 1 • emp)) => (pTake_any hW.pull3 o).mono (R' := fun e w' => e = .returned (.bool false) ∧ Sat w.heap.size w w' (blk bo (.cells o.enc.toArray 67) • blk w.heap.size (.cells Q 67) • ptab t 4 [⟨q, 0, u⟩] 1 • emp)) (by rintro e w' ⟨rfl, h⟩; rw [k1]; rw [k2] at h; exact ⟨rfl, h.to (by ac_rfl)⟩)
    have hch := fun (W : World) (hW : Sat w.heap.size w W (blk bo (.cells o.enc.toArray 67) • blk w.heap.size (.cells Q 67) • ptab t 4 [⟨q, 0, u⟩] 1 • emp)) => (pHas_any hW.pull3 q).mono (R' := fun e w' => e = .returned (.bool true) ∧ Sat w.heap.size w w' (blk bo (.cells o.enc.toArray 67) • blk w.heap.size (.cells Q 67) • ptab t 4 [⟨q, 0, u⟩] 1 • emp)) (by rintro e w' ⟨rfl, h⟩; rw [k3]; exact ⟨rfl, h.to (by ac_rfl)⟩)
    have hlo : ∀ W, W.heap[bo]? = some (.cells o.enc.toArray 67) → (Instr.loadAt 67 (.pointer (some ⟨bo, 0, none⟩))).run Tryd.prog W = .ok (.agg o.enc.toArray) W :=
      fun W h => run_loadAt_row h Tryd.underlying67 rfl (by rw [Qry.enc_length]; kernel_rfl) (fun j u hu => by simpa using hu)
    have HLO := Lib.hid hlo
    have HCT := Lib.hid hct
    simp only [HQ.out] at hch
    have HCH := Lib.hid hch
    clear hlo hct hch k1 k2 k3 k4 he ho hne hX
    clear HS
    go_wp2_with (refine wpList_store_run (t := 3) rfl rfl rfl rfl hst (stop_ ?_))
    unfold Stop
    clear hst d5
    generalize o.enc.toArray = OE at *
    go_upto_region 21 with (fail)
    refine wp_region_seq [(0, .pure), (1, .quiet), (2, .acts), (3, .pure), (4, .pure), (5, .quiet), (6, .acts), (7, .pure), (8, .pure)] (by kernel_rfl)
      (fun w' => Sat w.heap.size w w' (blk bo (.cells OE 67) • blk w.heap.size (.cells Q 67) • ptab t 4 [⟨q, 0, u⟩] 1 • emp)) hS ?_
    iterate 1 (refine ord_pure rfl rfl rfl (fun K' hK => ?_); go_big_quiet_op; refine hK _ ?_; clear hK K')
    refine ord_load (t := 67) rfl rfl rfl (p := .pointer (some ⟨bo, 0, none⟩)) (v := .agg OE) rfl (fun w' hC => HLO.out _ hC.heap) (fun K' hK => ?_)
    go_simp
    refine hK _ ?_
    clear hK K'
    refine ord_acts rfl rfl (fun K' hK => ?_)
    go_simp
    refine (HCT.out _ hS).mono ?_
    rintro e w7 ⟨rfl, hS7⟩
    refine hK _ _ (hS7) ?_
    clear hK K'
    go_simp
    iterate 2 (refine ord_pure rfl rfl rfl (fun K' hK => ?_); go_big_quiet_op; refine hK _ ?_; clear hK K')
    refine ord_load (t := 67) rfl rfl rfl (p := .pointer (some ⟨w.heap.size, 0, none⟩)) (v := .agg Q) rfl (fun w' hC => HLD.out _ hC.pull2.heap) (fun K' hK => ?_)
    go_simp
    refine hK _ ?_
    clear hK K'
    refine ord_acts rfl rfl (fun K' hK => ?_)
    go_simp
    refine (HCH.out _ hS7).mono ?_
    rintro e w8 ⟨rfl, hS8⟩
    refine hK _ _ (hS8) ?_
    clear hK K'
    go_simp
    iterate 2 (refine ord_pure rfl rfl rfl (fun K' hK => ?_); go_big_quiet_op; refine hK _ ?_; clear hK K')
    refine ord_nil ?_
    by_cases hun : u ≤ now
    · have cE := pExpire_any hS8.pull3 now
      rw [once_gone, if_pos hun] at cE
      rw [show (([⟨q, 0, u⟩] : List (Itm Qry)).length : Int) - ([] : List (Itm Qry)).length = 1 from rfl] at cE
      have hd : decide (u ≤ now) = true := decide_eq_true hun
      clear hun hS8 hS hS7
      go_wp2_with fail
      refine cE.mono ?_
      rintro e w9 ⟨rfl, hS9⟩
      have hl9 := HLD.out w9 hS9.pull3.heap
      have cT := pTake_any hS9 q
      rw [once_nil.1, List.filter_nil, HQ.out] at cT
      clear cE
      go_wp2_with (refine wpList_load_want (t := 67) rfl rfl rfl hl9 ?_)
      refine cT.mono ?_
      rintro e w10 ⟨rfl, hS10⟩
      have hl10 := HLD.out w10 hS10.pull3.heap
      have cU := pTake_any hS10 q
      rw [once_nil.1, List.filter_nil, HQ.out] at cU
      clear cT hl9 hS9
      go_wp2_with (refine wpList_load_want (t := 67) rfl rfl rfl hl10 ?_)
      refine cU.mono ?_
      rintro e w11 ⟨rfl, hS11⟩
      have cL := pLen_any hS11
      rw [show (([] : List (Itm Qry)).length : Int) = 0 from rfl] at cL
      have hb := hS11.below
      clear cU hl10 hS10 hS11
      go_wp2_with fail
      refine cL.mono ?_
      rintro e w12 ⟨rfl, hw12⟩
      clear cL
      go_wp2_with fail
      go_ret
      rw [← hw12]
      exact ⟨rfl, hb⟩
    · have cE := pExpire_any hS8.pull3 now
      rw [once_gone, if_neg hun] at cE
      rw [show (([⟨q, 0, u⟩] : List (Itm Qry)).length : Int) - ([⟨q, 0, u⟩] : List (Itm Qry)).length = 0 from rfl] at cE
      have hd : decide (u ≤ now) = false := decide_eq_false hun
      clear hun hS8 hS hS7
      go_wp2_with fail
      refine cE.mono ?_
      rintro e w9 ⟨rfl, hS9⟩
      have hl9 := HLD.out w9 hS9.pull3.heap
      have cT := pTake_any hS9 q
      rw [(once_own q u).1, (once_own q u).2, HQ.out] at cT
      clear cE
      go_wp2_with (refine wpList_load_want (t := 67) rfl rfl rfl hl9 ?_)
      refine cT.mono ?_
      rintro e w10 ⟨rfl, hS10⟩
      have hl10 := HLD.out w10 hS10.pull3.heap
      have cU := pTake_any hS10 q
      rw [once_nil.1, List.filter_nil, HQ.out] at cU
      clear cT hl9 hS9
      go_wp2_with (refine wpList_load_want (t := 67) rfl rfl rfl hl10 ?_)
      refine cU.mono ?_
      rintro e w11 ⟨rfl, hS11⟩
      have cL := pLen_any hS11
      rw [show (([] : List (Itm Qry)).length : Int) = 0 from rfl] at cL
      have hb := hS11.below
      clear cU hl10 hS10 hS11
      go_wp2_with fail
      refine cL.mono ?_
      rintro e w12 ⟨rfl, hw12⟩
      clear cL
      go_wp2_with fail
      go_ret
      rw [← hw12]
      exact ⟨rfl, hb⟩
end Go.Proofs.YtepaanpdjadakaaDoor
