import Derived.Test.YtdcekoocnoackaaGreatDoorPart38

/-! Flows: Begin. -/
namespace Go.Proofs.YtdcekoocnoackaaGreatDoor
open Go Go.RowKit

attribute [local irreducible] wpOrd
theorem wp_box_run {P : Program} {w : World} {o : Oper} {a : Act} {K : Act → World → Prop} {Q : Exit → Act → World → Prop} {ty : TypeId} {x : Operand} {v : Value} (ho : o.op = .box ty x) (hx : a.eval x = v) (h : K (a.put o.dst (.pointer (some ⟨w.heap.size, 0, none⟩))) (w.alloc (.cells v.cells ty))) : o.wp P a w K Q := by
  unfold Oper.wp execOp
  simp only [ho, hx, Sem.run_bind, Instr.box]
  simp [newVar, Oper.upon]
  exact h
theorem exec_build2 {P : Program} {o : Oper} {a : Act} {t i j : Nat} {x y : Operand} {u v : Value} {cells : Array Value} (ho : o.op = .build t #[(i, x), (j, y)]) (hx : a.eval x = u) (hy : a.eval y = v) (hb : P.built t [(i, u), (j, v)] = some cells) (w' : World) :
    (execOp a.eval o).run P w' = .ok (.value (.agg cells)) w' := by
  have hr := run_build (P := P) w' t ((#[(i, x), (j, y)] : Array (Nat × Operand)).map fun (i, x) => (i, a.eval x)) cells (by simpa [hx, hy] using hb)
  unfold execOp
  simp only [ho, Sem.run_bind, hr, Result.andThen_ok]
  rfl
def begR (room : Nat) (R : List FIt) (next : Int) (p : Nat) (q : Tup) (flags now : Int) : List FIt := if begC room R q flags = 0 then R ++ [⟨⟨p, q, begP q⟩, next, begU q now⟩] else R
def begN (room : Nat) (R : List FIt) (next : Int) (q : Tup) (flags : Int) : Int := if begC room R q flags = 0 then next + 1 else next
def mkI (p : Nat) (q : Tup) (st id u : Int) : FIt := ⟨⟨p, q, ⟨st, 0⟩⟩, id, u⟩
theorem mkI_begin (p : Nat) (q : Tup) (id now : Int) : (⟨⟨p, q, begP q⟩, id, begU q now⟩ : FIt) = mkI p q (begP q).st id (aft now (lastsF q.proto (begP q).st)) := rfl
theorem flow_built (q : Tup) : Tryz.prog.built 149 [(0, .agg q.enc.toArray), (1, .int .i64 6)] = some (Flw.enc ⟨q, 6, 0, 0⟩).toArray := by
  obtain ⟨i, hi, hz⟩ := Option.map_eq_some_iff.1 (show (Tryz.prog.info? 149).map (fun i => i.zero.map fun z => (z.cells.size, z.cells.toList.drop 38)) = some (some (40, [.int .i64 0, .int .u64 0])) by kernel_rfl)
  obtain ⟨z, hz1, hz2⟩ := Option.map_eq_some_iff.1 hz
  simp only [Prod.mk.injEq] at hz2
  obtain ⟨hz2, hz3⟩ := hz2
  rw [built_struct (places := [(0, 37), (37, 1), (38, 1), (39, 1)]) (z := z) Tryz.underlying149 (by simp [hi, hz1]) (by kernel_rfl)]
  rw [fill_one (off := 0) (by simp [Value.cells, Tup.enc_length]) (by rw [hz2]; simp [Value.cells, Tup.enc_length])]
  rw [fill_one (off := 37) (by simp [Value.cells]) (by rw [splice_size (by rw [hz2]; simp [Value.cells, Tup.enc_length]), hz2]; simp [Value.cells])]
  simp only [Instr.fill]
  rw [show (Value.agg q.enc.toArray).cells.toList = q.enc from rfl, show (Value.int .i64 6).cells.toList = [.int .i64 6] from rfl]
  have e1 : (splice z.cells 0 q.enc).toList = q.enc ++ z.cells.toList.drop 37 := by
    simp only [splice, List.take_zero, List.nil_append, Nat.zero_add]
    rw [Tup.enc_length]
  have e2 : z.cells.toList.drop 37 = z.cells.toList[37]'(by rw [Array.length_toList, hz2]; decide) :: z.cells.toList.drop 38 := List.drop_eq_getElem_cons _
  unfold splice at e1 ⊢
  rw [e1, e2, hz3, List.take_left' (Tup.enc_length q), List.length_singleton]
  rw [show (37 : Nat) + 1 = 37 + 1 from rfl, ← List.drop_drop, List.drop_left' (Tup.enc_length q)]
  simp [Flw.enc]
theorem item_builtW (f : Flw) (id : Int) (x : FIt) (hx : flwOf x = f) (hi : x.id = id) : Tryz.prog.built 153 [(0, .agg f.enc.toArray), (1, .int .i64 id)] = some (flC x).toArray := by
  obtain ⟨i, hi', hz⟩ := Option.map_eq_some_iff.1 (show (Tryz.prog.info? 153).map (fun i => i.zero.map fun z => z.cells.size) = some (some 41) by kernel_rfl)
  obtain ⟨z, hz1, hz2⟩ := Option.map_eq_some_iff.1 hz
  rw [built_struct (places := [(0, 40), (40, 1)]) (z := z) Tryz.underlying153 (by simp [hi', hz1]) (by kernel_rfl)]
  rw [fill_one (off := 0) (by simp [Value.cells, Flw.enc_length]) (by rw [hz2]; simp [Value.cells, Flw.enc_length])]
  rw [fill_one (off := 40) (by simp [Value.cells]) (by rw [splice_size (by rw [hz2]; simp [Value.cells, Flw.enc_length]), hz2]; simp [Value.cells])]
  have := splice_two (z := z.cells) (a := f.enc) (b := [.int .i64 id]) (by rw [hz2, Flw.enc_length]; rfl)
  rw [Flw.enc_length] at this
  simp only [Instr.fill]
  rw [show (Value.agg f.enc.toArray).cells.toList = f.enc from rfl, show (Value.int .i64 id).cells.toList = [.int .i64 id] from rfl, this]
  unfold flC
  rw [hx, hi]
theorem flC_set (x y : FIt) (j : Nat) (v : Value) (hj : j < 40) (h : (flwOf x).enc.set j v = (flwOf y).enc) (hi : x.id = y.id) : (flC x).toArray.setIfInBounds j v = (flC y).toArray := by
  rw [List.setIfInBounds_toArray]
  congr 1
  unfold flC
  rw [List.set_append_left _ _ (by rw [Flw.enc_length]; exact hj), h, hi]
theorem mkI_set37 (p : Nat) (q : Tup) (st id u s : Int) : (flC (mkI p q st id u)).toArray.setIfInBounds 37 (.int .i64 s) = (flC (mkI p q s id u)).toArray := by
  refine flC_set _ _ _ _ (by decide) ?_ rfl
  unfold Flw.enc
  rw [List.set_append_right _ _ (by rw [Tup.enc_length]; omega), Tup.enc_length]
  rfl
theorem mkI_set39 (p : Nat) (q : Tup) (st id u s : Int) : (flC (mkI p q st id u)).toArray.setIfInBounds 39 (.int .u64 s) = (flC (mkI p q st id s)).toArray := by
  refine flC_set _ _ _ _ (by decide) ?_ rfl
  unfold Flw.enc
  rw [List.set_append_right _ _ (by rw [Tup.enc_length]; omega), Tup.enc_length]
  rfl
theorem ptr_zero : (Tryz.prog.info? 151).map (fun i => (i.zero, i.size, i.bytes)) = some (some (.pointer none), 1, 8) := by kernel_rfl
section
variable {B : Nat} {w0 w w' : World} {F : HP} {R : List FIt} {t room : Nat} {next : Int}
set_option maxRecDepth 8000 in
set_option maxHeartbeats 16000000 in
theorem flBegin_any (h : Sat B w0 w (fltab t room R next • F)) (hB : 0 < B) (hE : Et w0) (hnx : 0 ≤ next ∧ next ≤ 1000000000) (q : Tup) (flags now : Int) (hn0 : 0 ≤ now) (hn1 : now ≤ 18446744073709551615) : Calls Tryz.prog 156 #[.pointer (some ⟨t, 0, none⟩), .agg q.enc.toArray, .int .i64 flags, .int .u64 now] w fun e w' =>
    ∃ p, e = .returned (errV (begC room R q flags)) ∧ Sat B w0 w' (fltab t room (begR room R next p q flags now) (begN room R next q flags) • F) := by
  have e0 : errV 0 = .nilIface := rfl
  have hX := h.alloc (.cells q.enc.toArray 39)
  have d34 : (w.alloc (.cells q.enc.toArray 39)).cell? ⟨w.heap.size, 34, none⟩ = some (.int .i64 q.proto) := cell_heap hX.heap (by simpa using q.at34 0)
  have hlq : ∀ W, W.heap[w.heap.size]? = some (.cells q.enc.toArray 39) → (Instr.loadAt 39 (.pointer (some ⟨w.heap.size, 0, none⟩))).run Tryz.prog W = .ok (.agg q.enc.toArray) W :=
    fun W h => run_loadAt_row h Tryz.underlying39 rfl (by rw [Tup.enc_length]; kernel_rfl) (fun j u hu => by simpa using hu)
  have HLQ := Lib.hid hlq
  have hd34 : ∀ W : World, W.heap[w.heap.size]? = some (.cells q.enc.toArray 39) → W.cell? ⟨w.heap.size, 34, none⟩ = some (.int .i64 q.proto) := fun W hW => cell_heap hW (by simpa using q.at34 0)
  have HD34 := Lib.hid hd34
  have HFB := Lib.hid (flow_built q)
  have c1 := begins_any q.proto flags (w.alloc (.cells q.enc.toArray 39))
  have c2 := flFind_any hX.pull2 q
  have hl1 := hlq _ hX.heap
  have HE := Lib.hid hE
  clear hlq hd34 hE
  cases hb : beginsF q.proto flags with
  | false =>
    rw [hb] at c1
    have hr : begC room R q flags = 1 := by unfold begC; rw [hb]; rfl
    have HS := Lib.hid hX.drop
    have HR := Lib.hid hr
    clear hb hr c2 h hX hl1 HFB HLQ HD34
    generalize q.enc.toArray = QE at *
    generalize q.proto = qp at *
    generalize hxb : w.heap.size = xb at *
    go_enter Tryz.func156, Tryz.ntmps156
    go_wp2_with fail
    try rw [hxb]
    refine c1.mono ?_
    rintro e wx ⟨rfl, rfl⟩
    go_wp2_with fail
    go_ret
    refine ⟨0, ?_⟩
    unfold begR begN
    rw [HR.out, if_neg (show ¬ (1 : Int) = 0 by decide), if_neg (show ¬ (1 : Int) = 0 by decide)]
    exact ⟨rfl, HS.out⟩
  | true =>
    rw [hb] at c1
    cases ha : R.any (isW q) with
    | true =>
      obtain ⟨k, x, hx, hxq, _, hpt⟩ : ∃ (k : Nat) (x : FIt), R[k]? = some x ∧ x.key.tup = q ∧ R.any (isW q) = true ∧ ptrAt R q = .pointer (some ⟨x.key.p, 0, none⟩) := by
        rcases ptrAt_cases R q with ⟨h1, _, _⟩ | hh
        · rw [ha] at h1; cases h1
        · exact hh
      rw [hpt] at c2
      have hr : begC room R q flags = 19 := by unfold begC; rw [hb, ha]; rfl
      have HR := Lib.hid hr
      clear hb hr h hX HFB HLQ HD34 ha hpt hx hxq
      generalize x.key.p = xp at *
      generalize q.enc.toArray = QE at *
      generalize q.proto = qp at *
      generalize hxb : w.heap.size = xb at *
      go_enter Tryz.func156, Tryz.ntmps156
      go_wp2_with fail
      try rw [hxb]
      refine c1.mono ?_
      rintro e wx ⟨rfl, rfl⟩
      go_wp2_with (refine wpList_load_run (t := 39) rfl rfl rfl hl1 ?_)
      refine c2.mono ?_
      rintro e w2 ⟨rfl, hS2⟩
      go_wp2_with fail
      go_ret
      refine ⟨0, ?_⟩
      unfold begR begN
      rw [HR.out, if_neg (show ¬ (19 : Int) = 0 by decide), if_neg (show ¬ (19 : Int) = 0 by decide)]
      exact ⟨rfl, hS2.pull2.drop⟩
    | false =>
      have hpt : ptrAt R q = .pointer none := by
        rcases ptrAt_cases R q with ⟨_, h1, _⟩ | ⟨_, _, _, _, h1, _⟩
        · exact h1
        · rw [ha] at h1; cases h1
      rw [hpt] at c2
      have hcC : begC room R q flags = if room ≤ R.length then 18 else 0 := by unfold begC; rw [hb, ha]; rfl
      have HCC := Lib.hid hcC
      clear hb ha hpt hcC h hX
      have HQP := Lib.hid (rfl : q.proto = q.proto)
      generalize hQE : q.enc.toArray = QE at *
      clear hQE
      generalize hxb : w.heap.size = xb at *
      by_cases h6 : q.proto = 6
      · rw [h6] at c1 d34
        have hst : (begP q).st = 1 := by unfold begP; rw [h6]; rfl
        have HST := Lib.hid hst
        have HD6 := Lib.hid (fun W (h : W.heap[xb]? = some (.cells QE 39)) => (HD34.out W h).trans (by rw [h6]))
        have hlst : lastsF q.proto 1 = 30 := by unfold lastsF; rfl
        clear hst
        go_enter Tryz.func156, Tryz.ntmps156
        go_wp2_with fail
        try rw [hxb]
        refine c1.mono ?_
        rintro e wx ⟨rfl, rfl⟩
        go_wp2_with (refine wpList_load_run (t := 39) rfl rfl rfl hl1 ?_)
        refine c2.mono ?_
        rintro e w1 ⟨rfl, hS1⟩
        obtain ⟨A, c, qq, hg, hl1', hl2, hT0⟩ := hS1.fl_open
        have hT := hT0.drew
        have hnn := hg.hasnt
        have hRl : R.length ≤ 1000 := by omega
        have hxb1 : w1.drew.heap[xb]? = some (.cells QE 39) := (Sat.its_drop R _ hT.drop.drop.drop).heap
        have HG := Lib.hid hg
        clear c1 c2 hS1 hT0 hl1 d34 hg
        go_wp2_with fail
        try go_frame
        obtain ⟨P7, hP7⟩ : ∃ p, w1.drew.heap.size = p := ⟨_, rfl⟩
        have hI := hT.alloc (.cells (flC (mkI P7 q 6 next 0)).toArray 153)
        have HIB := Lib.hid (item_builtW ⟨q, 6, 0, 0⟩ next (mkI P7 q 6 next 0) rfl rfl)
        rw [hP7] at hI
        refine wp_region_ord [(0, .quiet), (1, .pure), (2, .pure), (3, .pure), (4, .pure), (5, .quiet), (6, .pure), (7, .seals), (8, .pure)] (by kernel_rfl) (by kernel_rfl)
          (fun w' => w'.cell? ⟨t, 2, none⟩ = some (.int .i64 next) ∧ w'.heap[xb]? = some (.cells QE 39)) ⟨cell_heap hT.heap rfl, hxb1⟩ ?_
        refine ord_load (t := 39) rfl rfl rfl (p := .pointer (some ⟨xb, 0, none⟩)) (v := .agg QE) rfl (fun w' hC => HLQ.out _ hC.2) (fun K' hK => ?_)
        go_simp
        refine hK _ ?_
        clear hK K'
        refine ord_run (v := .agg (Flw.enc ⟨q, 6, 0, 0⟩).toArray) rfl rfl (exec_build2 rfl (u := .agg QE) (v := .int .i64 6) rfl rfl HFB.out) (fun K' hK => ?_)
        go_simp
        refine hK _ ?_
        clear hK K'
        iterate 3 (refine ord_pure rfl rfl rfl (fun K' hK => ?_); go_big_quiet_op; refine hK _ ?_; clear hK K')
        refine ord_load (t := 3) rfl rfl rfl (p := .pointer (some ⟨t, 2, none⟩)) (v := .int .i64 next) rfl (fun w' hC => load_one Tryz.underlying3 rfl hC.1) (fun K' hK => ?_)
        go_simp
        refine hK _ ?_
        clear hK K'
        refine ord_run (v := .agg (flC (mkI P7 q 6 next 0)).toArray) rfl rfl (exec_build2 rfl (u := .agg (Flw.enc ⟨q, 6, 0, 0⟩).toArray) (v := .int .i64 next) rfl rfl HIB.out) (fun K' hK => ?_)
        go_simp
        refine hK _ ?_
        clear hK K'
        refine ord_seals rfl rfl (fun K' hK => wp_box_run rfl (v := .agg (flC (mkI P7 q 6 next 0)).toArray) rfl (hK (fun _ => True) _ _ trivial ?_))
        clear hK K'
        go_simp
        iterate 1 (refine ord_pure rfl rfl rfl (fun K' hK => ?_); go_big_quiet_op; refine hK _ ?_; clear hK K')
        refine ord_nil ?_
        have hI : Sat B w0 (w1.alloc (.cells (flC (mkI P7 q 6 next 0)).toArray 153)).drew (blk P7 (.cells (flC (mkI P7 q 6 next 0)).toArray 153) • blk t (.cells #[.slice A R.length c, .pointer (some ⟨qq, 0, none⟩), .int .i64 next] 119) • arr 151 1 (.slice A R.length c) R.length (R.flatMap ptrC) • queue qq room (ents R) • its R (blk xb (.cells QE 39) • F)) := hI
        generalize (w1.alloc (.cells (flC (mkI P7 q 6 next 0)).toArray 153)).drew = w7 at *
        have hx7 : w7.heap[xb]? = some (.cells QE 39) := (Sat.its_drop R _ hI.drop.drop.drop.drop).heap
        have d7 := HD6.out w7 hx7
        clear hT hP7 hxb1
        obtain ⟨w8, hr8, hI8⟩ := one_store (o := 37) (ty := 3) (u := .int .i64 1) hI (by kernel_rfl) (by simp [flC_length]) rfl rfl
        rw [mkI_set37] at hI8
        clear hI hx7
        go_wp2_with (refine wpList_store_run (t := 3) rfl rfl rfl rfl hr8 (stop_ ?_))
        unfold Stop
        have hlf := flw_load hI8.heap
        go_wp2_with (refine wpList_load_run (t := 149) rfl rfl rfl hlf ?_)
        refine (lasts_any (flwOf (mkI P7 q 1 next 0)) _).mono ?_
        rintro e w9 ⟨rfl, hb9⟩
        have hI9 := hI8.below_ hb9
        rw [show (flwOf (mkI P7 q 1 next 0)).tup.proto = q.proto from rfl, show (flwOf (mkI P7 q 1 next 0)).st = 1 from rfl]
        have hlb := lastsF_bd q.proto 1
        clear hI8 hb9 hlf
        go_wp2_with fail
        refine (sum_any now (lastsF q.proto 1) _ hn0 hn1 hlb.1 hlb.2).mono ?_
        rintro e wz ⟨rfl, rfl⟩
        have hu : aft now (lastsF q.proto 1) = begU q now := by unfold begU; rw [HST.out]
        rw [hu]
        obtain ⟨w10, hr10, hI10⟩ := one_store (o := 39) (ty := 49) (u := .int .u64 (begU q now)) hI9 (by kernel_rfl) (by simp [flC_length]) rfl rfl
        rw [mkI_set39] at hI10
        clear hI9 hu hlb
        go_wp2_with (refine wpList_store_run (t := 49) rfl rfl rfl rfl hr10 (stop_ ?_))
        unfold Stop
        have hI11 := hI10.drew
        have hC11 : w10.drew.cell? ⟨t, 1, none⟩ = some (.pointer (some ⟨qq, 0, none⟩)) ∧ w10.drew.cell? ⟨P7, 40, none⟩ = some (.int .i64 next) ∧ w10.drew.cell? ⟨P7, 39, none⟩ = some (.int .u64 (begU q now)) := ⟨cell_heap hI11.pull2.heap rfl, cell_heap hI11.heap (by rw [List.getElem?_toArray]; exact flC_id (mkI P7 q 1 next (begU q now))), cell_heap hI11.heap (by rw [List.getElem?_toArray]; exact flC_due (mkI P7 q 1 next (begU q now)))⟩
        have hpsh := qPush_any (hI11.to (by ac_rfl : _ = queue qq room (ents R) • blk P7 (.cells (flC (mkI P7 q 1 next (begU q now))).toArray 153) • blk t (.cells #[.slice A R.length c, .pointer (some ⟨qq, 0, none⟩), .int .i64 next] 119) • arr 151 1 (.slice A R.length c) R.length (R.flatMap ptrC) • its R (blk xb (.cells QE 39) • F))) (hI11.et hB HE.out) next (begU q now)
        by_cases hfull : room ≤ R.length
        · have hpc : pushC room (ents R) next = 18 ∧ pushS room (ents R) next (begU q now) = ents R := by unfold pushC pushS; rw [hnn, ents_length]; simp [hfull]
          rw [hpc.1, hpc.2, show errV 18 = .iface 58 (.int .i64 18) from rfl] at hpsh
          have hr : begC room R q flags = 18 := by rw [HCC.out, if_pos hfull]
          have HR := Lib.hid hr
          clear hpc hr hI11 hI10 hfull hnn
          go_wp2_with fail
          try go_frame
          refine wp_region_ord [(0, .pure), (1, .pure), (2, .pure), (3, .quiet), (4, .pure), (5, .pure), (6, .pure), (7, .quiet), (8, .pure), (9, .pure), (10, .pure), (11, .pure), (12, .quiet), (13, .seals), (14, .pure)] (by kernel_rfl) (by kernel_rfl)
            (fun w' => w'.cell? ⟨t, 1, none⟩ = some (.pointer (some ⟨qq, 0, none⟩)) ∧ w'.cell? ⟨P7, 40, none⟩ = some (.int .i64 next) ∧ w'.cell? ⟨P7, 39, none⟩ = some (.int .u64 (begU q now))) hC11 ?_
          iterate 3 (refine ord_pure rfl rfl rfl (fun K' hK => ?_); go_big_quiet_op; refine hK _ ?_; clear hK K')
          refine ord_load (t := 106) rfl rfl rfl (p := .pointer (some ⟨t, 1, none⟩)) (v := .pointer (some ⟨qq, 0, none⟩)) rfl (fun w' hC => load_one Tryz.underlying106 rfl hC.1) (fun K' hK => ?_)
          go_simp
          refine hK _ ?_
          clear hK K'
          iterate 3 (refine ord_pure rfl rfl rfl (fun K' hK => ?_); go_big_quiet_op; refine hK _ ?_; clear hK K')
          refine ord_load (t := 3) rfl rfl rfl (p := .pointer (some ⟨P7, 40, none⟩)) (v := .int .i64 next) rfl (fun w' hC => load_one Tryz.underlying3 rfl hC.2.1) (fun K' hK => ?_)
          go_simp
          refine hK _ ?_
          clear hK K'
          iterate 4 (refine ord_pure rfl rfl rfl (fun K' hK => ?_); go_big_quiet_op; refine hK _ ?_; clear hK K')
          refine ord_load (t := 49) rfl rfl rfl (p := .pointer (some ⟨P7, 39, none⟩)) (v := .int .u64 (begU q now)) rfl (fun w' hC => load_one Tryz.underlying49 rfl hC.2.2) (fun K' hK => ?_)
          go_simp
          refine hK _ ?_
          clear hK K'
          refine ord_seals rfl rfl (fun K' hK => ?_)
          go_simp
          refine (hpsh).mono ?_
          rintro e w3 ⟨rfl, hS3⟩
          refine hK (fun _ => True) _ _ trivial ?_
          clear hK K'
          go_simp
          iterate 1 (refine ord_pure rfl rfl rfl (fun K' hK => ?_); go_big_quiet_op; refine hK _ ?_; clear hK K')
          refine ord_nil ?_
          go_wp2_with fail
          go_ret
          refine ⟨0, ?_⟩
          unfold begR begN
          rw [HR.out, if_neg (show ¬ (18 : Int) = 0 by decide), if_neg (show ¬ (18 : Int) = 0 by decide)]
          have h8 := hS3.to (by ac_rfl : _ = blk P7 (.cells (flC (mkI P7 q 1 next (begU q now))).toArray 153) • blk t (.cells #[.slice A R.length c, .pointer (some ⟨qq, 0, none⟩), .int .i64 next] 119) • arr 151 1 (.slice A R.length c) R.length (R.flatMap ptrC) • queue qq room (ents R) • its R (blk xb (.cells QE 39) • F))
          exact ⟨rfl, (Sat.fl_shut (v := .slice A R.length c) (q := qq) HG.out h8.drop).pull2.drop⟩
        · have hpc : pushC room (ents R) next = 0 ∧ pushS room (ents R) next (begU q now) = ents (R ++ [mkI P7 q 1 next (begU q now)]) := by
            unfold pushC pushS
            rw [hnn, ents_length, show mkI P7 q 1 next (begU q now) = ⟨⟨P7, q, ⟨1, 0⟩⟩, next, begU q now⟩ from rfl, ents_add]
            simp [hfull]
          rw [hpc.1, hpc.2, e0] at hpsh
          have hr : begC room R q flags = 0 := by rw [HCC.out, if_neg hfull]
          have HR := Lib.hid hr
          have HG2 := Lib.hid (HG.out.add (⟨P7, q, ⟨1, 0⟩⟩ : Fky) (begU q now))
          clear hpc hr hI11 hI10 hfull hnn
          go_wp2_with fail
          try go_frame
          refine wp_region_ord [(0, .pure), (1, .pure), (2, .pure), (3, .quiet), (4, .pure), (5, .pure), (6, .pure), (7, .quiet), (8, .pure), (9, .pure), (10, .pure), (11, .pure), (12, .quiet), (13, .seals), (14, .pure)] (by kernel_rfl) (by kernel_rfl)
            (fun w' => w'.cell? ⟨t, 1, none⟩ = some (.pointer (some ⟨qq, 0, none⟩)) ∧ w'.cell? ⟨P7, 40, none⟩ = some (.int .i64 next) ∧ w'.cell? ⟨P7, 39, none⟩ = some (.int .u64 (begU q now))) hC11 ?_
          iterate 3 (refine ord_pure rfl rfl rfl (fun K' hK => ?_); go_big_quiet_op; refine hK _ ?_; clear hK K')
          refine ord_load (t := 106) rfl rfl rfl (p := .pointer (some ⟨t, 1, none⟩)) (v := .pointer (some ⟨qq, 0, none⟩)) rfl (fun w' hC => load_one Tryz.underlying106 rfl hC.1) (fun K' hK => ?_)
          go_simp
          refine hK _ ?_
          clear hK K'
          iterate 3 (refine ord_pure rfl rfl rfl (fun K' hK => ?_); go_big_quiet_op; refine hK _ ?_; clear hK K')
          refine ord_load (t := 3) rfl rfl rfl (p := .pointer (some ⟨P7, 40, none⟩)) (v := .int .i64 next) rfl (fun w' hC => load_one Tryz.underlying3 rfl hC.2.1) (fun K' hK => ?_)
          go_simp
          refine hK _ ?_
          clear hK K'
          iterate 4 (refine ord_pure rfl rfl rfl (fun K' hK => ?_); go_big_quiet_op; refine hK _ ?_; clear hK K')
          refine ord_load (t := 49) rfl rfl rfl (p := .pointer (some ⟨P7, 39, none⟩)) (v := .int .u64 (begU q now)) rfl (fun w' hC => load_one Tryz.underlying49 rfl hC.2.2) (fun K' hK => ?_)
          go_simp
          refine hK _ ?_
          clear hK K'
          refine ord_seals rfl rfl (fun K' hK => ?_)
          go_simp
          refine (hpsh).mono ?_
          rintro e w3 ⟨rfl, hS3⟩
          refine hK (fun _ => True) _ _ trivial ?_
          clear hK K'
          go_simp
          iterate 1 (refine ord_pure rfl rfl rfl (fun K' hK => ?_); go_big_quiet_op; refine hK _ ?_; clear hK K')
          refine ord_nil ?_
          have hX9 := hS3.pull4.drop
          have hY := hS3.to (by ac_rfl : _ = arr 151 1 (.slice A R.length c) R.length (R.flatMap ptrC) • blk t (.cells #[.slice A R.length c, .pointer (some ⟨qq, 0, none⟩), .int .i64 next] 119) • queue qq room (ents (R ++ [mkI P7 q 1 next (begU q now)])) • blk P7 (.cells (flC (mkI P7 q 1 next (begU q now))).toArray 153) • its R (blk xb (.cells QE 39) • F))
          have hY2 := hY.alloc_ (.cells #[.pointer (some ⟨P7, 0, none⟩)] 151)
          obtain ⟨v9, w9', hr9, hA9⟩ := hY2.append (sz := 1) (m := 1) (news := [.pointer (some ⟨P7, 0, none⟩)]) (t := 117) (ty := 117) (P := Tryz.prog) (x := .slice (some ⟨w3.heap.size, 0, none⟩) 1 1) Tryz.underlying117 ptr_zero (by simp [Value.cells]) (by decide) reads_new rfl (by simp [Value.oneCell']) (by unfold maxLen; omega) (by omega)
          obtain ⟨A9, c9, rfl⟩ := hA9.arr_form
          obtain ⟨w12, hr12, hA12⟩ := one_store (o := 0) (ty := 117) (u := .slice A9 (R.length + 1) c9) hA9.pull2 (by kernel_rfl) (by simp) rfl rfl
          have d12 : w12.cell? ⟨t, 2, none⟩ = some (.int .i64 next) := cell_heap hA12.heap rfl
          obtain ⟨w13, hr13, hA13⟩ := one_store (o := 2) (ty := 3) (u := .int .i64 (next + 1)) hA12 (by kernel_rfl) (by simp) rfl rfl
          have d3 : w3.cell? ⟨t, 0, none⟩ = some (.slice A R.length c) := cell_heap hY.pull2.heap rfl
          have hfin : Sat B w0 w13 (fltab t room (R ++ [mkI P7 q 1 next (begU q now)]) (next + 1) • blk xb (.cells QE 39) • F) := by
            refine Sat.fl_shut (v := .slice A9 (R.length + 1) c9) (q := qq) HG2.out ?_
            rw [List.length_append, List.length_singleton, List.flatMap_append, List.flatMap_singleton, its_app]
            show Sat B w0 w13 (_ • _ • _ • its R (blk P7 (.cells (flC (mkI P7 q 1 next (begU q now))).toArray 153) • blk xb (.cells QE 39) • F))
            rw [its_star]
            exact hA13.to (by ac_rfl : _ = blk t (.cells ((#[Value.slice A R.length c, .pointer (some ⟨qq, 0, none⟩), .int .i64 next].setIfInBounds 0 (.slice A9 (R.length + 1) c9)).setIfInBounds 2 (.int .i64 (next + 1))) 119) • arr 151 1 (.slice A9 (R.length + 1) c9) (R.length + 1) (R.flatMap ptrC ++ [.pointer (some ⟨P7, 0, none⟩)]) • queue qq room (ents (R ++ [mkI P7 q 1 next (begU q now)])) • blk P7 (.cells (flC (mkI P7 q 1 next (begU q now))).toArray 153) • its R (blk xb (.cells QE 39) • F))
          have HF := Lib.hid hfin.pull2.drop
          have HMK : Hid ((⟨⟨P7, q, begP q⟩, next, begU q now⟩ : FIt) = mkI P7 q 1 next (begU q now)) := Lib.hid (by rw [mkI_begin, HST.out]; unfold begU; rw [HST.out])
          clear hfin hA13 hA12 hA9 hY2 hY hX9 hS3
          go_wp2_with (first | (at_builtin; refine wpList_append_run rfl _ _ _ rfl rfl rfl hr9 ?_) | (refine wpList_store_run (t := 117) rfl rfl rfl rfl hr12 (stop_ ?_)))
          unfold Stop
          go_wp2_with (refine wpList_store_run (t := 3) rfl rfl rfl rfl hr13 (stop_ ?_))
          unfold Stop
          go_wp2_with fail
          go_ret
          refine ⟨P7, ?_⟩
          unfold begR begN
          rw [HR.out, if_pos (rfl : (0 : Int) = 0), if_pos (rfl : (0 : Int) = 0)]
          exact ⟨rfl, by rw [HMK.out]; exact HF.out⟩
      · have hst : (begP q).st = 6 := by unfold begP; rw [if_neg h6]
        have HST := Lib.hid hst
        have e6 : (q.proto == 6) = false := by simpa using h6
        clear hst h6
        go_enter Tryz.func156, Tryz.ntmps156
        go_wp2_with fail
        try rw [hxb]
        refine c1.mono ?_
        rintro e wx ⟨rfl, rfl⟩
        go_wp2_with (refine wpList_load_run (t := 39) rfl rfl rfl hl1 ?_)
        refine c2.mono ?_
        rintro e w1 ⟨rfl, hS1⟩
        obtain ⟨A, c, qq, hg, hl1', hl2, hT0⟩ := hS1.fl_open
        have hT := hT0.drew
        have hnn := hg.hasnt
        have hRl : R.length ≤ 1000 := by omega
        have hxb1 : w1.drew.heap[xb]? = some (.cells QE 39) := (Sat.its_drop R _ hT.drop.drop.drop).heap
        have HG := Lib.hid hg
        clear c1 c2 hS1 hT0 hl1 d34 hg
        go_wp2_with fail
        try go_frame
        obtain ⟨P7, hP7⟩ : ∃ p, w1.drew.heap.size = p := ⟨_, rfl⟩
        have hI := hT.alloc (.cells (flC (mkI P7 q 6 next 0)).toArray 153)
        have HIB := Lib.hid (item_builtW ⟨q, 6, 0, 0⟩ next (mkI P7 q 6 next 0) rfl rfl)
        rw [hP7] at hI
        refine wp_region_ord [(0, .quiet), (1, .pure), (2, .pure), (3, .pure), (4, .pure), (5, .quiet), (6, .pure), (7, .seals), (8, .pure)] (by kernel_rfl) (by kernel_rfl)
          (fun w' => w'.cell? ⟨t, 2, none⟩ = some (.int .i64 next) ∧ w'.heap[xb]? = some (.cells QE 39)) ⟨cell_heap hT.heap rfl, hxb1⟩ ?_
        refine ord_load (t := 39) rfl rfl rfl (p := .pointer (some ⟨xb, 0, none⟩)) (v := .agg QE) rfl (fun w' hC => HLQ.out _ hC.2) (fun K' hK => ?_)
        go_simp
        refine hK _ ?_
        clear hK K'
        refine ord_run (v := .agg (Flw.enc ⟨q, 6, 0, 0⟩).toArray) rfl rfl (exec_build2 rfl (u := .agg QE) (v := .int .i64 6) rfl rfl HFB.out) (fun K' hK => ?_)
        go_simp
        refine hK _ ?_
        clear hK K'
        iterate 3 (refine ord_pure rfl rfl rfl (fun K' hK => ?_); go_big_quiet_op; refine hK _ ?_; clear hK K')
        refine ord_load (t := 3) rfl rfl rfl (p := .pointer (some ⟨t, 2, none⟩)) (v := .int .i64 next) rfl (fun w' hC => load_one Tryz.underlying3 rfl hC.1) (fun K' hK => ?_)
        go_simp
        refine hK _ ?_
        clear hK K'
        refine ord_run (v := .agg (flC (mkI P7 q 6 next 0)).toArray) rfl rfl (exec_build2 rfl (u := .agg (Flw.enc ⟨q, 6, 0, 0⟩).toArray) (v := .int .i64 next) rfl rfl HIB.out) (fun K' hK => ?_)
        go_simp
        refine hK _ ?_
        clear hK K'
        refine ord_seals rfl rfl (fun K' hK => wp_box_run rfl (v := .agg (flC (mkI P7 q 6 next 0)).toArray) rfl (hK (fun _ => True) _ _ trivial ?_))
        clear hK K'
        go_simp
        iterate 1 (refine ord_pure rfl rfl rfl (fun K' hK => ?_); go_big_quiet_op; refine hK _ ?_; clear hK K')
        refine ord_nil ?_
        have hI : Sat B w0 (w1.alloc (.cells (flC (mkI P7 q 6 next 0)).toArray 153)).drew (blk P7 (.cells (flC (mkI P7 q 6 next 0)).toArray 153) • blk t (.cells #[.slice A R.length c, .pointer (some ⟨qq, 0, none⟩), .int .i64 next] 119) • arr 151 1 (.slice A R.length c) R.length (R.flatMap ptrC) • queue qq room (ents R) • its R (blk xb (.cells QE 39) • F)) := hI
        generalize (w1.alloc (.cells (flC (mkI P7 q 6 next 0)).toArray 153)).drew = w7 at *
        have hx7 : w7.heap[xb]? = some (.cells QE 39) := (Sat.its_drop R _ hI.drop.drop.drop.drop).heap
        have d7 := HD34.out w7 hx7
        clear hT hP7 hxb1
        have hI8 := hI
        clear hI hx7
        have hlf := flw_load hI8.heap
        go_wp2_with (refine wpList_load_run (t := 149) rfl rfl rfl hlf ?_)
        refine (lasts_any (flwOf (mkI P7 q 6 next 0)) _).mono ?_
        rintro e w9 ⟨rfl, hb9⟩
        have hI9 := hI8.below_ hb9
        rw [show (flwOf (mkI P7 q 6 next 0)).tup.proto = q.proto from rfl, show (flwOf (mkI P7 q 6 next 0)).st = 6 from rfl]
        have hlb := lastsF_bd q.proto 6
        clear hI8 hb9 hlf
        go_wp2_with fail
        refine (sum_any now (lastsF q.proto 6) _ hn0 hn1 hlb.1 hlb.2).mono ?_
        rintro e wz ⟨rfl, rfl⟩
        have hu : aft now (lastsF q.proto 6) = begU q now := by unfold begU; rw [HST.out]
        rw [hu]
        obtain ⟨w10, hr10, hI10⟩ := one_store (o := 39) (ty := 49) (u := .int .u64 (begU q now)) hI9 (by kernel_rfl) (by simp [flC_length]) rfl rfl
        rw [mkI_set39] at hI10
        clear hI9 hu hlb
        go_wp2_with (refine wpList_store_run (t := 49) rfl rfl rfl rfl hr10 (stop_ ?_))
        unfold Stop
        have hI11 := hI10.drew
        have hC11 : w10.drew.cell? ⟨t, 1, none⟩ = some (.pointer (some ⟨qq, 0, none⟩)) ∧ w10.drew.cell? ⟨P7, 40, none⟩ = some (.int .i64 next) ∧ w10.drew.cell? ⟨P7, 39, none⟩ = some (.int .u64 (begU q now)) := ⟨cell_heap hI11.pull2.heap rfl, cell_heap hI11.heap (by rw [List.getElem?_toArray]; exact flC_id (mkI P7 q 6 next (begU q now))), cell_heap hI11.heap (by rw [List.getElem?_toArray]; exact flC_due (mkI P7 q 6 next (begU q now)))⟩
        have hpsh := qPush_any (hI11.to (by ac_rfl : _ = queue qq room (ents R) • blk P7 (.cells (flC (mkI P7 q 6 next (begU q now))).toArray 153) • blk t (.cells #[.slice A R.length c, .pointer (some ⟨qq, 0, none⟩), .int .i64 next] 119) • arr 151 1 (.slice A R.length c) R.length (R.flatMap ptrC) • its R (blk xb (.cells QE 39) • F))) (hI11.et hB HE.out) next (begU q now)
        by_cases hfull : room ≤ R.length
        · have hpc : pushC room (ents R) next = 18 ∧ pushS room (ents R) next (begU q now) = ents R := by unfold pushC pushS; rw [hnn, ents_length]; simp [hfull]
          rw [hpc.1, hpc.2, show errV 18 = .iface 58 (.int .i64 18) from rfl] at hpsh
          have hr : begC room R q flags = 18 := by rw [HCC.out, if_pos hfull]
          have HR := Lib.hid hr
          clear hpc hr hI11 hI10 hfull hnn
          go_wp2_with fail
          try go_frame
          refine wp_region_ord [(0, .pure), (1, .pure), (2, .pure), (3, .quiet), (4, .pure), (5, .pure), (6, .pure), (7, .quiet), (8, .pure), (9, .pure), (10, .pure), (11, .pure), (12, .quiet), (13, .seals), (14, .pure)] (by kernel_rfl) (by kernel_rfl)
            (fun w' => w'.cell? ⟨t, 1, none⟩ = some (.pointer (some ⟨qq, 0, none⟩)) ∧ w'.cell? ⟨P7, 40, none⟩ = some (.int .i64 next) ∧ w'.cell? ⟨P7, 39, none⟩ = some (.int .u64 (begU q now))) hC11 ?_
          iterate 3 (refine ord_pure rfl rfl rfl (fun K' hK => ?_); go_big_quiet_op; refine hK _ ?_; clear hK K')
          refine ord_load (t := 106) rfl rfl rfl (p := .pointer (some ⟨t, 1, none⟩)) (v := .pointer (some ⟨qq, 0, none⟩)) rfl (fun w' hC => load_one Tryz.underlying106 rfl hC.1) (fun K' hK => ?_)
          go_simp
          refine hK _ ?_
          clear hK K'
          iterate 3 (refine ord_pure rfl rfl rfl (fun K' hK => ?_); go_big_quiet_op; refine hK _ ?_; clear hK K')
          refine ord_load (t := 3) rfl rfl rfl (p := .pointer (some ⟨P7, 40, none⟩)) (v := .int .i64 next) rfl (fun w' hC => load_one Tryz.underlying3 rfl hC.2.1) (fun K' hK => ?_)
          go_simp
          refine hK _ ?_
          clear hK K'
          iterate 4 (refine ord_pure rfl rfl rfl (fun K' hK => ?_); go_big_quiet_op; refine hK _ ?_; clear hK K')
          refine ord_load (t := 49) rfl rfl rfl (p := .pointer (some ⟨P7, 39, none⟩)) (v := .int .u64 (begU q now)) rfl (fun w' hC => load_one Tryz.underlying49 rfl hC.2.2) (fun K' hK => ?_)
          go_simp
          refine hK _ ?_
          clear hK K'
          refine ord_seals rfl rfl (fun K' hK => ?_)
          go_simp
          refine (hpsh).mono ?_
          rintro e w3 ⟨rfl, hS3⟩
          refine hK (fun _ => True) _ _ trivial ?_
          clear hK K'
          go_simp
          iterate 1 (refine ord_pure rfl rfl rfl (fun K' hK => ?_); go_big_quiet_op; refine hK _ ?_; clear hK K')
          refine ord_nil ?_
          go_wp2_with fail
          go_ret
          refine ⟨0, ?_⟩
          unfold begR begN
          rw [HR.out, if_neg (show ¬ (18 : Int) = 0 by decide), if_neg (show ¬ (18 : Int) = 0 by decide)]
          have h8 := hS3.to (by ac_rfl : _ = blk P7 (.cells (flC (mkI P7 q 6 next (begU q now))).toArray 153) • blk t (.cells #[.slice A R.length c, .pointer (some ⟨qq, 0, none⟩), .int .i64 next] 119) • arr 151 1 (.slice A R.length c) R.length (R.flatMap ptrC) • queue qq room (ents R) • its R (blk xb (.cells QE 39) • F))
          exact ⟨rfl, (Sat.fl_shut (v := .slice A R.length c) (q := qq) HG.out h8.drop).pull2.drop⟩
        · have hpc : pushC room (ents R) next = 0 ∧ pushS room (ents R) next (begU q now) = ents (R ++ [mkI P7 q 6 next (begU q now)]) := by
            unfold pushC pushS
            rw [hnn, ents_length, show mkI P7 q 6 next (begU q now) = ⟨⟨P7, q, ⟨6, 0⟩⟩, next, begU q now⟩ from rfl, ents_add]
            simp [hfull]
          rw [hpc.1, hpc.2, e0] at hpsh
          have hr : begC room R q flags = 0 := by rw [HCC.out, if_neg hfull]
          have HR := Lib.hid hr
          have HG2 := Lib.hid (HG.out.add (⟨P7, q, ⟨6, 0⟩⟩ : Fky) (begU q now))
          clear hpc hr hI11 hI10 hfull hnn
          go_wp2_with fail
          try go_frame
          refine wp_region_ord [(0, .pure), (1, .pure), (2, .pure), (3, .quiet), (4, .pure), (5, .pure), (6, .pure), (7, .quiet), (8, .pure), (9, .pure), (10, .pure), (11, .pure), (12, .quiet), (13, .seals), (14, .pure)] (by kernel_rfl) (by kernel_rfl)
            (fun w' => w'.cell? ⟨t, 1, none⟩ = some (.pointer (some ⟨qq, 0, none⟩)) ∧ w'.cell? ⟨P7, 40, none⟩ = some (.int .i64 next) ∧ w'.cell? ⟨P7, 39, none⟩ = some (.int .u64 (begU q now))) hC11 ?_
          iterate 3 (refine ord_pure rfl rfl rfl (fun K' hK => ?_); go_big_quiet_op; refine hK _ ?_; clear hK K')
          refine ord_load (t := 106) rfl rfl rfl (p := .pointer (some ⟨t, 1, none⟩)) (v := .pointer (some ⟨qq, 0, none⟩)) rfl (fun w' hC => load_one Tryz.underlying106 rfl hC.1) (fun K' hK => ?_)
          go_simp
          refine hK _ ?_
          clear hK K'
          iterate 3 (refine ord_pure rfl rfl rfl (fun K' hK => ?_); go_big_quiet_op; refine hK _ ?_; clear hK K')
          refine ord_load (t := 3) rfl rfl rfl (p := .pointer (some ⟨P7, 40, none⟩)) (v := .int .i64 next) rfl (fun w' hC => load_one Tryz.underlying3 rfl hC.2.1) (fun K' hK => ?_)
          go_simp
          refine hK _ ?_
          clear hK K'
          iterate 4 (refine ord_pure rfl rfl rfl (fun K' hK => ?_); go_big_quiet_op; refine hK _ ?_; clear hK K')
          refine ord_load (t := 49) rfl rfl rfl (p := .pointer (some ⟨P7, 39, none⟩)) (v := .int .u64 (begU q now)) rfl (fun w' hC => load_one Tryz.underlying49 rfl hC.2.2) (fun K' hK => ?_)
          go_simp
          refine hK _ ?_
          clear hK K'
          refine ord_seals rfl rfl (fun K' hK => ?_)
          go_simp
          refine (hpsh).mono ?_
          rintro e w3 ⟨rfl, hS3⟩
          refine hK (fun _ => True) _ _ trivial ?_
          clear hK K'
          go_simp
          iterate 1 (refine ord_pure rfl rfl rfl (fun K' hK => ?_); go_big_quiet_op; refine hK _ ?_; clear hK K')
          refine ord_nil ?_
          have hX9 := hS3.pull4.drop
          have hY := hS3.to (by ac_rfl : _ = arr 151 1 (.slice A R.length c) R.length (R.flatMap ptrC) • blk t (.cells #[.slice A R.length c, .pointer (some ⟨qq, 0, none⟩), .int .i64 next] 119) • queue qq room (ents (R ++ [mkI P7 q 6 next (begU q now)])) • blk P7 (.cells (flC (mkI P7 q 6 next (begU q now))).toArray 153) • its R (blk xb (.cells QE 39) • F))
          have hY2 := hY.alloc_ (.cells #[.pointer (some ⟨P7, 0, none⟩)] 151)
          obtain ⟨v9, w9', hr9, hA9⟩ := hY2.append (sz := 1) (m := 1) (news := [.pointer (some ⟨P7, 0, none⟩)]) (t := 117) (ty := 117) (P := Tryz.prog) (x := .slice (some ⟨w3.heap.size, 0, none⟩) 1 1) Tryz.underlying117 ptr_zero (by simp [Value.cells]) (by decide) reads_new rfl (by simp [Value.oneCell']) (by unfold maxLen; omega) (by omega)
          obtain ⟨A9, c9, rfl⟩ := hA9.arr_form
          obtain ⟨w12, hr12, hA12⟩ := one_store (o := 0) (ty := 117) (u := .slice A9 (R.length + 1) c9) hA9.pull2 (by kernel_rfl) (by simp) rfl rfl
          have d12 : w12.cell? ⟨t, 2, none⟩ = some (.int .i64 next) := cell_heap hA12.heap rfl
          obtain ⟨w13, hr13, hA13⟩ := one_store (o := 2) (ty := 3) (u := .int .i64 (next + 1)) hA12 (by kernel_rfl) (by simp) rfl rfl
          have d3 : w3.cell? ⟨t, 0, none⟩ = some (.slice A R.length c) := cell_heap hY.pull2.heap rfl
          have hfin : Sat B w0 w13 (fltab t room (R ++ [mkI P7 q 6 next (begU q now)]) (next + 1) • blk xb (.cells QE 39) • F) := by
            refine Sat.fl_shut (v := .slice A9 (R.length + 1) c9) (q := qq) HG2.out ?_
            rw [List.length_append, List.length_singleton, List.flatMap_append, List.flatMap_singleton, its_app]
            show Sat B w0 w13 (_ • _ • _ • its R (blk P7 (.cells (flC (mkI P7 q 6 next (begU q now))).toArray 153) • blk xb (.cells QE 39) • F))
            rw [its_star]
            exact hA13.to (by ac_rfl : _ = blk t (.cells ((#[Value.slice A R.length c, .pointer (some ⟨qq, 0, none⟩), .int .i64 next].setIfInBounds 0 (.slice A9 (R.length + 1) c9)).setIfInBounds 2 (.int .i64 (next + 1))) 119) • arr 151 1 (.slice A9 (R.length + 1) c9) (R.length + 1) (R.flatMap ptrC ++ [.pointer (some ⟨P7, 0, none⟩)]) • queue qq room (ents (R ++ [mkI P7 q 6 next (begU q now)])) • blk P7 (.cells (flC (mkI P7 q 6 next (begU q now))).toArray 153) • its R (blk xb (.cells QE 39) • F))
          have HF := Lib.hid hfin.pull2.drop
          have HMK : Hid ((⟨⟨P7, q, begP q⟩, next, begU q now⟩ : FIt) = mkI P7 q 6 next (begU q now)) := Lib.hid (by rw [mkI_begin, HST.out]; unfold begU; rw [HST.out])
          clear hfin hA13 hA12 hA9 hY2 hY hX9 hS3
          go_wp2_with (first | (at_builtin; refine wpList_append_run rfl _ _ _ rfl rfl rfl hr9 ?_) | (refine wpList_store_run (t := 117) rfl rfl rfl rfl hr12 (stop_ ?_)))
          unfold Stop
          go_wp2_with (refine wpList_store_run (t := 3) rfl rfl rfl rfl hr13 (stop_ ?_))
          unfold Stop
          go_wp2_with fail
          go_ret
          refine ⟨P7, ?_⟩
          unfold begR begN
          rw [HR.out, if_pos (rfl : (0 : Int) = 0), if_pos (rfl : (0 : Int) = 0)]
          exact ⟨rfl, by rw [HMK.out]; exact HF.out⟩
end
end Go.Proofs.YtdcekoocnoackaaGreatDoor
