import Derived.Test.YtepaanpdjadakaaDoorPPlaysP
/-! PendingPlays' walk. -/
namespace Go.Proofs.YtepaanpdjadakaaDoor
open Go Go.RowKit

theorem exec_build1 {P : Program} {o : Oper} {a : Act} {t : TypeId} {i : Nat} {x : Operand} {u : Value} {cells : Array Value} (ho : o.op = .build t #[(i, x)]) (hx : a.eval x = u) (hb : P.built t [(i, u)] = some cells) (w' : World) :
    (execOp a.eval o).run P w' = .ok (.value (.agg cells)) w' := by
  have hr := run_build (P := P) w' t ((#[(i, x)] : Array (Nat × Operand)).map fun (i, x) => (i, a.eval x)) cells (by simpa [hx] using hb)
  unfold execOp
  simp only [ho, Sem.run_bind, hr, Result.andThen_ok]
  rfl
attribute [local irreducible] wpOrd
set_option maxRecDepth 8000 in
set_option maxHeartbeats 32000000 in
theorem pplays_any (n : Int) (v0 : Value) (ops : List QOp) (w : World) (r0 : RowsAt QOp.enc w v0 ops) (rs : ∀ o ∈ ops, RowsAt Adr.enc w (.slice o.sa o.ss.length o.sc) o.ss) (hE : Et w) :
    Calls Tryd.prog 10 #[.int .i64 n, v0] w fun e w' => e = .returned (.bool true) ∧ Below w.heap.size w w' := by
  obtain ⟨A0, cp0, rfl⟩ := r0.form
  have hol := r0.2
  unfold maxLen at hol
  have c1 := pNew_any n (Sat.start w)
  have RS := Lib.hid rs
  have hbf : Tryd.prog.built 63 [(0, .bool true)] = some fillA.enc.toArray := by kernel_rfl
  clear rs
  go_enter Tryd.func10, Tryd.ntmps10
  go_wp2_with fail
  refine c1.mono ?_
  rintro e w1 ⟨t, rfl, hS1⟩
  have hS2 : Sat w.heap.size w _ (qref w1.heap.size n [] • ptab t (roomOf n) [] 0 • emp) := Sat.qref_shut (v := .slice none 0 0) (u := .slice none 0 0) ((arr_nil (e := 67) (sz := 40) ((arr_nil (e := 23) (sz := 1) (hS1.alloc (.cells #[.int .i64 n, .slice none 0 0, .slice none 0 0] 86))).pull2)).to (by ac_rfl))
  generalize hb : w1.heap.size = b at *
  clear c1 hS1
  go_wp2_with fail
  refine (awake23_any _ (hS2.et hE.pos hE)).mono ?_
  rintro e w3 ⟨rfl, hb3⟩
  have hS3 := hS2.below_ hb3
  clear hS2 hb3 hb
  go_wp2_with fail
  go_loopw [7] (fun i wr => ∃ (k : Nat) (R : List (Itm Qry)) (next : Int), k ≤ ops.length ∧ k ≤ 100 ∧ R.length ≤ k ∧ (0 ≤ next ∧ next ≤ k) ∧ KN R ∧ i = .int .i64 k ∧ Sat w.heap.size w wr (qref b n R • ptab t (roomOf n) R next • emp)) (fun i _ => ops.length - (intOf i).toNat)
  case atStart => exact ⟨0, [], 0, Nat.zero_le _, by omega, Nat.le_refl _, ⟨by omega, by omega⟩, KN.nil, rfl, hS3⟩
  case round =>
    clear hS3
    obtain ⟨k, R, next, hk, hk100, hRk, hnx, hkn, rfl, hS⟩ := hrel
    by_cases hlt : k < ops.length ∧ k < 100
    · obtain ⟨hl1, hl2⟩ := hlt
      obtain ⟨o, ho⟩ : ∃ o, ops[k]? = some o := ⟨_, List.getElem?_eq_getElem hl1⟩
      obtain ⟨a, ca, hva⟩ := r0.some_addr ho
      cases hva
      have hld := (r0.below hS.below).agg_at Tryd.underlying88 rfl (by kernel_rfl) QOp.enc_length ho rfl
      have hst : ∀ (W : World) (z : Array Value), z.size = 43 → (Instr.storeAt 88 (.pointer (some ⟨W.heap.size, 0, none⟩)) (.agg o.enc.toArray)).run Tryd.prog (W.alloc (.cells z 88)) = .ok () (W.alloc (.cells o.enc.toArray 88)) :=
        fun W z hz => run_storeAt_new (v := .agg o.enc.toArray) (by simp only [Value.cells, List.size_toArray, QOp.enc_length]; kernel_rfl) (by simp only [Value.cells, List.size_toArray, QOp.enc_length]; exact hz) (by simpa [Value.cells] using o.enc_one)
      have hof : ∀ (bo : Nat) (W : World), W.heap[bo]? = some (.cells o.enc.toArray 88) → W.cell? ⟨bo, 0, none⟩ = some (.int .i64 o.kind) ∧ W.cell? ⟨bo, 41, none⟩ = some (.int .u64 o.at_) ∧ W.cell? ⟨bo, 42, none⟩ = some (.slice o.sa o.ss.length o.sc) ∧ (Instr.loadAt 67 (.pointer (some ⟨bo, 1, none⟩))).run Tryd.prog W = .ok (.agg o.q.enc.toArray) W := by
        intro bo W hW
        refine ⟨cell_heap hW (by simpa using o.at0), cell_heap hW (by simpa using o.at41), cell_heap hW (by simpa using o.at42), ?_⟩
        exact run_loadAt_row (cs := o.q.enc) hW Tryd.underlying67 rfl (by rw [Qry.enc_length]; kernel_rfl) (fun j u hu => by simpa using o.at1 j u hu)
      have hro := RS.out o (List.mem_of_getElem? ho)
      have HRO := Lib.hid hro
      have HOF := Lib.hid (hof wr.heap.size)
      have hS4 := (hS.alloc (.cells o.enc.toArray 88)).to (by ac_rfl : _ = blk wr.heap.size (.cells o.enc.toArray 88) • ptab t (roomOf n) R next • qref b n R • emp)
      clear ho hS hof hro
      generalize hOE : o.enc.toArray = OE at *
      clear hOE
      obtain ⟨ok, q, oa, sa, sc, ss⟩ := o
      simp only at HRO HOF
      have hsl : ss.length ≤ maxLen := HRO.out.2
      unfold maxLen at hsl
      have d0 := (HOF.out _ hS4.heap).1
      have d1 := (HOF.out _ hS4.heap).2.1
      have d2 := (HOF.out _ hS4.heap).2.2.1
      generalize hob : wr.heap.size = bo at *
      generalize hW : wr.alloc (.cells OE 88) = W at *
      have HOB := Lib.hid hob
      have HW := Lib.hid hW
      clear hob hW
      by_cases h1 : ok = 1
      · have hb1 : (ok == 1) = true := by simpa using h1
        clear h1
        go_wp2_with (first | (refine wpList_load_run (t := 88) rfl rfl rfl hld ?_) | (refine wpList_store_run (t := 88) rfl rfl rfl rfl (hst _ _ rfl) (stop_ ?_)))
        unfold Stop
        rw [HW.out, HOB.out]
        go_wp2_with fail
        try go_frame
        have hS5 := hS4.drew
        clear hld hst HW HOB
        have HKN := Lib.hid hkn
        clear hkn d0 d1 d2 hS4
        refine wp_region_ord [(0, .pure), (1, .pure), (2, .quiet), (4, .pure), (5, .pure), (6, .quiet), (3, .acts), (7, .acts), (8, .pure), (9, .pure)] (by kernel_rfl) (by kernel_rfl)
          (fun w' => w'.heap[bo]? = some (.cells OE 88)) hS5.heap ?_
        iterate 2 (refine ord_pure rfl rfl rfl (fun K' hK => ?_); go_big_quiet_op; refine hK _ ?_; clear hK K')
        refine ord_load (t := 67) rfl rfl rfl (p := .pointer (some ⟨bo, 1, none⟩)) (v := .agg q.enc.toArray) rfl (fun w' hC => (HOF.out _ hC).2.2.2) (fun K' hK => ?_)
        go_simp
        refine hK _ ?_
        clear hK K'
        iterate 2 (refine ord_pure rfl rfl rfl (fun K' hK => ?_); go_big_quiet_op; refine hK _ ?_; clear hK K')
        refine ord_load (t := 67) rfl rfl rfl (p := .pointer (some ⟨bo, 1, none⟩)) (v := .agg q.enc.toArray) rfl (fun w' hC => (HOF.out _ hC).2.2.2) (fun K' hK => ?_)
        go_simp
        refine hK _ ?_
        clear hK K'
        refine ord_acts rfl rfl (fun K' hK => ?_)
        go_simp
        refine (pTake_any hS5.pull2 q).mono ?_
        rintro e wa ⟨rfl, hT⟩
        refine hK _ _ (hT.pull2.heap) ?_
        clear hK K'
        go_simp
        refine ord_acts rfl rfl (fun K' hK => ?_)
        go_simp
        refine (qTake_any hT.pull3 (by omega) HKN.out q).mono ?_
        rintro e wb ⟨rfl, hU⟩
        refine hK _ _ (hU.pull3.heap) ?_
        clear hK K'
        go_simp
        iterate 2 (refine ord_pure rfl rfl rfl (fun K' hK => ?_); go_big_quiet_op; refine hK _ ?_; clear hK K')
        refine ord_nil ?_
        have hV := hU.to (by ac_rfl : _ = blk bo (.cells OE 88) • ptab t (roomOf n) (R.filter fun x => !isQ q x) next • qref b n (R.filter fun x => !isQ q x) • emp)
        have hr2 : (R.filter fun x => !isQ q x).length ≤ R.length + 1 := Nat.le_succ_of_le (List.length_filter_le _ _)
        have KN2 := Lib.hid (HKN.out.filter fun x => !isQ q x)
        have hn2 := hnx
        clear hU hT hS5
        generalize (R.filter fun x => !isQ q x) = R2 at *
        have hRl : R2.length ≤ 1000 := by omega
        obtain ⟨A, c, Z, Zv, hZ0, hz1, hz2, hz3, hz4, hz5, hz6, hz7⟩ := tail20 hV hRl q
        have Z1 := Lib.hid hz1
        have Z2 := Lib.hid hz2
        have Z3 := Lib.hid hz3
        have Z4 := Lib.hid hz4
        have Z5 := Lib.hid hz5
        have Z6 := Lib.hid hz6
        have Z7 := Lib.hid hz7
        have hZ := hZ0.drew
        clear hz1 hz2 hz3 hz4 hz5 hz6 hz7 hZ0 hV
        generalize R2.any (isQ q) = bh at *
        have hbb : (bh != bh) = false := by cases bh <;> rfl
        go_wp2_with fail
        try go_frame
        refine wp_region_ord [(0, .pure), (1, .pure), (2, .pure), (3, .pure), (5, .pure), (6, .pure), (7, .pure), (8, .quiet), (4, .acts), (9, .acts), (10, .pure), (11, .pure), (12, .pure), (13, .pure), (15, .pure), (16, .pure), (17, .pure), (18, .quiet), (19, .pure), (14, .acts), (20, .pure), (21, .pure), (22, .pure), (23, .pure), (24, .pure), (25, .quiet), (27, .pure), (28, .pure), (29, .quiet), (26, .acts), (30, .seals), (31, .pure), (32, .pure)] (by kernel_rfl) (by kernel_rfl)
          (fun w' => w'.heap[bo]? = some (.cells OE 88) ∧ w'.cell? ⟨b, 1, none⟩ = some (.slice A R2.length c)) (Z1.out _ hZ) ?_
        iterate 7 (refine ord_pure rfl rfl rfl (fun K' hK => ?_); go_big_quiet_op; refine hK _ ?_; clear hK K')
        refine ord_load (t := 77) rfl rfl rfl (p := .pointer (some ⟨b, 1, none⟩)) (v := .slice A R2.length c) rfl (fun w' hC => load_one Tryd.underlying77 rfl hC.2) (fun K' hK => ?_)
        go_simp
        refine hK _ ?_
        clear hK K'
        refine ord_acts rfl rfl (fun K' hK => ?_)
        go_simp
        refine (Z2.out _ hZ).mono ?_
        rintro e x1 ⟨A3, c3, rfl, hZ2⟩
        refine hK _ _ (Z3.out _ _ _ hZ2) ?_
        clear hK K'
        go_simp
        refine ord_acts rfl rfl (fun K' hK => ?_)
        go_simp
        refine (Z4.out _ _ _ hZ2).mono ?_
        rintro e x2 ⟨rfl, hZ3⟩
        refine hK _ _ (Z1.out _ hZ3) ?_
        clear hK K'
        go_simp
        iterate 7 (refine ord_pure rfl rfl rfl (fun K' hK => ?_); go_big_quiet_op; refine hK _ ?_; clear hK K')
        refine ord_load (t := 77) rfl rfl rfl (p := .pointer (some ⟨b, 1, none⟩)) (v := .slice A R2.length c) rfl (fun w' hC => load_one Tryd.underlying77 rfl hC.2) (fun K' hK => ?_)
        go_simp
        refine hK _ ?_
        clear hK K'
        iterate 1 (refine ord_pure rfl rfl rfl (fun K' hK => ?_); go_big_quiet_op; refine hK _ ?_; clear hK K')
        refine ord_acts rfl rfl (fun K' hK => ?_)
        go_simp
        refine (Z5.out _ hZ3).mono ?_
        rintro e x3 ⟨rfl, hZ4⟩
        refine hK _ _ (Z1.out _ hZ4) ?_
        clear hK K'
        go_simp
        iterate 5 (refine ord_pure rfl rfl rfl (fun K' hK => ?_); go_big_quiet_op; refine hK _ ?_; clear hK K')
        refine ord_load (t := 67) rfl rfl rfl (p := .pointer (some ⟨bo, 1, none⟩)) (v := .agg q.enc.toArray) rfl (fun w' hC => (HOF.out _ hC.1).2.2.2) (fun K' hK => ?_)
        go_simp
        refine hK _ ?_
        clear hK K'
        iterate 2 (refine ord_pure rfl rfl rfl (fun K' hK => ?_); go_big_quiet_op; refine hK _ ?_; clear hK K')
        refine ord_load (t := 67) rfl rfl rfl (p := .pointer (some ⟨bo, 1, none⟩)) (v := .agg q.enc.toArray) rfl (fun w' hC => (HOF.out _ hC.1).2.2.2) (fun K' hK => ?_)
        go_simp
        refine hK _ ?_
        clear hK K'
        refine ord_acts rfl rfl (fun K' hK => ?_)
        go_simp
        refine (Z6.out _ hZ4).mono ?_
        rintro e x4 ⟨rfl, hZ5⟩
        refine hK _ _ (Z1.out _ hZ5) ?_
        clear hK K'
        go_simp
        refine ord_seals rfl rfl (fun K' hK => ?_)
        go_simp
        refine (Z7.out _ hZ5).mono ?_
        rintro e x5 ⟨rfl, hY⟩
        refine hK (fun _ => True) _ _ trivial ?_
        clear hK K'
        go_simp
        iterate 2 (refine ord_pure rfl rfl rfl (fun K' hK => ?_); go_big_quiet_op; refine hK _ ?_; clear hK K')
        refine ord_nil ?_
        go_wp2_with fail
        go_roundw
        case rel => exact ⟨k + 1, R2, next, by omega, by omega, by omega, ⟨by omega, by omega⟩, KN2.out, by go_num, hY.pull2⟩
        case measure => simp [intOf]; omega
      · have hb1 : (ok == 1) = false := by simpa using h1
        clear h1
        by_cases h2 : ok = 2
        · have hb2 : (ok == 2) = true := by simpa using h2
          clear h2
          go_wp2_with (first | (refine wpList_load_run (t := 88) rfl rfl rfl hld ?_) | (refine wpList_store_run (t := 88) rfl rfl rfl rfl (hst _ _ rfl) (stop_ ?_)))
          unfold Stop
          rw [HW.out, HOB.out]
          go_wp2_with fail
          try go_frame
          have hS5 := hS4.drew
          clear hld hst HW HOB
          have HKN := Lib.hid hkn
          clear hkn d0 d1 d2 hS4
          refine wp_region_ord [(0, .pure), (1, .pure), (2, .quiet), (4, .pure), (5, .pure), (6, .quiet), (3, .acts), (7, .acts), (8, .pure), (9, .pure)] (by kernel_rfl) (by kernel_rfl)
            (fun w' => w'.heap[bo]? = some (.cells OE 88)) hS5.heap ?_
          iterate 2 (refine ord_pure rfl rfl rfl (fun K' hK => ?_); go_big_quiet_op; refine hK _ ?_; clear hK K')
          refine ord_load (t := 23) rfl rfl rfl (p := .pointer (some ⟨bo, 41, none⟩)) (v := .int .u64 oa) rfl (fun w' hC => load_one Tryd.underlying23 rfl (HOF.out _ hC).2.1) (fun K' hK => ?_)
          go_simp
          refine hK _ ?_
          clear hK K'
          iterate 2 (refine ord_pure rfl rfl rfl (fun K' hK => ?_); go_big_quiet_op; refine hK _ ?_; clear hK K')
          refine ord_load (t := 23) rfl rfl rfl (p := .pointer (some ⟨bo, 41, none⟩)) (v := .int .u64 oa) rfl (fun w' hC => load_one Tryd.underlying23 rfl (HOF.out _ hC).2.1) (fun K' hK => ?_)
          go_simp
          refine hK _ ?_
          clear hK K'
          refine ord_acts rfl rfl (fun K' hK => ?_)
          go_simp
          refine (pExpire_any hS5.pull2 oa).mono ?_
          rintro e wa ⟨rfl, hT⟩
          refine hK _ _ (hT.pull2.heap) ?_
          clear hK K'
          go_simp
          refine ord_acts rfl rfl (fun K' hK => ?_)
          go_simp
          refine (qExpire_any hT.pull3 (by omega) oa).mono ?_
          rintro e wb ⟨rfl, hU⟩
          refine hK _ _ (hU.pull3.heap) ?_
          clear hK K'
          go_simp
          iterate 2 (refine ord_pure rfl rfl rfl (fun K' hK => ?_); go_big_quiet_op; refine hK _ ?_; clear hK K')
          refine ord_nil ?_
          have hV := hU.to (by ac_rfl : _ = blk bo (.cells OE 88) • ptab t (roomOf n) (R.filter fun x => !late oa x) next • qref b n (R.filter fun x => !late oa x) • emp)
          have hr2 : (R.filter fun x => !late oa x).length ≤ R.length + 1 := Nat.le_succ_of_le (List.length_filter_le _ _)
          have KN2 := Lib.hid (HKN.out.filter fun x => !late oa x)
          have hn2 := hnx
          clear hU hT hS5
          generalize (R.filter fun x => !late oa x) = R2 at *
          have hRl : R2.length ≤ 1000 := by omega
          obtain ⟨A, c, Z, Zv, hZ0, hz1, hz2, hz3, hz4, hz5, hz6, hz7⟩ := tail20 hV hRl q
          have Z1 := Lib.hid hz1
          have Z2 := Lib.hid hz2
          have Z3 := Lib.hid hz3
          have Z4 := Lib.hid hz4
          have Z5 := Lib.hid hz5
          have Z6 := Lib.hid hz6
          have Z7 := Lib.hid hz7
          have hZ := hZ0.drew
          clear hz1 hz2 hz3 hz4 hz5 hz6 hz7 hZ0 hV
          generalize R2.any (isQ q) = bh at *
          have hbb : (bh != bh) = false := by cases bh <;> rfl
          go_wp2_with fail
          try go_frame
          refine wp_region_ord [(0, .pure), (1, .pure), (2, .pure), (3, .pure), (5, .pure), (6, .pure), (7, .pure), (8, .quiet), (4, .acts), (9, .acts), (10, .pure), (11, .pure), (12, .pure), (13, .pure), (15, .pure), (16, .pure), (17, .pure), (18, .quiet), (19, .pure), (14, .acts), (20, .pure), (21, .pure), (22, .pure), (23, .pure), (24, .pure), (25, .quiet), (27, .pure), (28, .pure), (29, .quiet), (26, .acts), (30, .seals), (31, .pure), (32, .pure)] (by kernel_rfl) (by kernel_rfl)
            (fun w' => w'.heap[bo]? = some (.cells OE 88) ∧ w'.cell? ⟨b, 1, none⟩ = some (.slice A R2.length c)) (Z1.out _ hZ) ?_
          iterate 7 (refine ord_pure rfl rfl rfl (fun K' hK => ?_); go_big_quiet_op; refine hK _ ?_; clear hK K')
          refine ord_load (t := 77) rfl rfl rfl (p := .pointer (some ⟨b, 1, none⟩)) (v := .slice A R2.length c) rfl (fun w' hC => load_one Tryd.underlying77 rfl hC.2) (fun K' hK => ?_)
          go_simp
          refine hK _ ?_
          clear hK K'
          refine ord_acts rfl rfl (fun K' hK => ?_)
          go_simp
          refine (Z2.out _ hZ).mono ?_
          rintro e x1 ⟨A3, c3, rfl, hZ2⟩
          refine hK _ _ (Z3.out _ _ _ hZ2) ?_
          clear hK K'
          go_simp
          refine ord_acts rfl rfl (fun K' hK => ?_)
          go_simp
          refine (Z4.out _ _ _ hZ2).mono ?_
          rintro e x2 ⟨rfl, hZ3⟩
          refine hK _ _ (Z1.out _ hZ3) ?_
          clear hK K'
          go_simp
          iterate 7 (refine ord_pure rfl rfl rfl (fun K' hK => ?_); go_big_quiet_op; refine hK _ ?_; clear hK K')
          refine ord_load (t := 77) rfl rfl rfl (p := .pointer (some ⟨b, 1, none⟩)) (v := .slice A R2.length c) rfl (fun w' hC => load_one Tryd.underlying77 rfl hC.2) (fun K' hK => ?_)
          go_simp
          refine hK _ ?_
          clear hK K'
          iterate 1 (refine ord_pure rfl rfl rfl (fun K' hK => ?_); go_big_quiet_op; refine hK _ ?_; clear hK K')
          refine ord_acts rfl rfl (fun K' hK => ?_)
          go_simp
          refine (Z5.out _ hZ3).mono ?_
          rintro e x3 ⟨rfl, hZ4⟩
          refine hK _ _ (Z1.out _ hZ4) ?_
          clear hK K'
          go_simp
          iterate 5 (refine ord_pure rfl rfl rfl (fun K' hK => ?_); go_big_quiet_op; refine hK _ ?_; clear hK K')
          refine ord_load (t := 67) rfl rfl rfl (p := .pointer (some ⟨bo, 1, none⟩)) (v := .agg q.enc.toArray) rfl (fun w' hC => (HOF.out _ hC.1).2.2.2) (fun K' hK => ?_)
          go_simp
          refine hK _ ?_
          clear hK K'
          iterate 2 (refine ord_pure rfl rfl rfl (fun K' hK => ?_); go_big_quiet_op; refine hK _ ?_; clear hK K')
          refine ord_load (t := 67) rfl rfl rfl (p := .pointer (some ⟨bo, 1, none⟩)) (v := .agg q.enc.toArray) rfl (fun w' hC => (HOF.out _ hC.1).2.2.2) (fun K' hK => ?_)
          go_simp
          refine hK _ ?_
          clear hK K'
          refine ord_acts rfl rfl (fun K' hK => ?_)
          go_simp
          refine (Z6.out _ hZ4).mono ?_
          rintro e x4 ⟨rfl, hZ5⟩
          refine hK _ _ (Z1.out _ hZ5) ?_
          clear hK K'
          go_simp
          refine ord_seals rfl rfl (fun K' hK => ?_)
          go_simp
          refine (Z7.out _ hZ5).mono ?_
          rintro e x5 ⟨rfl, hY⟩
          refine hK (fun _ => True) _ _ trivial ?_
          clear hK K'
          go_simp
          iterate 2 (refine ord_pure rfl rfl rfl (fun K' hK => ?_); go_big_quiet_op; refine hK _ ?_; clear hK K')
          refine ord_nil ?_
          go_wp2_with fail
          go_roundw
          case rel => exact ⟨k + 1, R2, next, by omega, by omega, by omega, ⟨by omega, by omega⟩, KN2.out, by go_num, hY.pull2⟩
          case measure => simp [intOf]; omega
        · have hb2 : (ok == 2) = false := by simpa using h2
          clear h2
          by_cases h3 : ok = 3
          · have hb3 : (ok == 3) = true := by simpa using h3
            clear h3
            by_cases h20 : 20 < ss.length
            · have h20z : (20 : Int) < ss.length := by omega
              go_wp2_with (first | (refine wpList_load_run (t := 88) rfl rfl rfl hld ?_) | (refine wpList_store_run (t := 88) rfl rfl rfl rfl (hst _ _ rfl) (stop_ ?_)))
              unfold Stop
              rw [HW.out, HOB.out]
              go_wp2_with fail
              try go_frame
              clear hld hst HW HOB
              go_ret
              exact ⟨rfl, hS4.below⟩
            · have h20z : ¬ (20 : Int) < ss.length := by omega
              go_wp2_with (first | (refine wpList_load_run (t := 88) rfl rfl rfl hld ?_) | (refine wpList_store_run (t := 88) rfl rfl rfl rfl (hst _ _ rfl) (stop_ ?_)))
              unfold Stop
              rw [HW.out, HOB.out]
              have cO := own_any hS4 ss _ (HRO.out.below hS4.below) (by omega)
              clear hld hst HW HOB
              go_wp2_with (refine wpList_build_run rfl rfl rfl hbf ?_)
              refine cO.mono ?_
              rintro e w5 ⟨g, rfl, hS6⟩
              have hS7 := hS6.drew
              clear cO hS4 hS6 d0 d1 d2
              have HKN := Lib.hid hkn
              clear hkn
              go_wp2_with fail
              try go_frame
              refine wp_region_ord [(0, .pure), (1, .pure), (3, .pure), (4, .pure), (5, .quiet), (2, .acts), (6, .acts), (7, .pure), (8, .pure), (9, .pure), (10, .pure), (11, .quiet), (12, .pure), (13, .acts), (14, .pure), (15, .pure)] (by kernel_rfl) (by kernel_rfl)
                (fun w' => w'.heap[bo]? = some (.cells OE 88)) hS7.pull2.heap ?_
              iterate 4 (refine ord_pure rfl rfl rfl (fun K' hK => ?_); go_big_quiet_op; refine hK _ ?_; clear hK K')
              refine ord_load (t := 76) rfl rfl rfl (p := .pointer (some ⟨bo, 42, none⟩)) (v := .slice sa ss.length sc) rfl (fun w' hC => load_one Tryd.underlying76 rfl (HOF.out _ hC).2.2.1) (fun K' hK => ?_)
              go_simp
              refine hK _ ?_
              clear hK K'
              refine ord_acts rfl rfl (fun K' hK => ?_)
              go_simp
              refine (pKeep_any hS7.pull3 ss (.slice (some ⟨g, 0, none⟩) ss.length (ss.length + 3)) (by omega) rfl (fun W G hh => by rw [star_assoc] at hh; exact hh.own_reads (by omega))).mono ?_
              rintro e wa ⟨rfl, hT⟩
              refine hK _ _ (hT.pull3.heap) ?_
              clear hK K'
              go_simp
              refine ord_acts rfl rfl (fun K' hK => ?_)
              go_simp
              refine (qKeep_any hT.pull4 (by omega) ss (.slice sa ss.length sc) (by omega) (fun W G hh => HRO.out.below hh.below)).mono ?_
              rintro e wb ⟨rfl, hU⟩
              refine hK _ _ (hU.pull4.heap) ?_
              clear hK K'
              go_simp
              iterate 4 (refine ord_pure rfl rfl rfl (fun K' hK => ?_); go_big_quiet_op; refine hK _ ?_; clear hK K')
              refine ord_load (t := 76) rfl rfl rfl (p := .pointer (some ⟨bo, 42, none⟩)) (v := .slice sa ss.length sc) rfl (fun w' hC => load_one Tryd.underlying76 rfl (HOF.out _ hC).2.2.1) (fun K' hK => ?_)
              go_simp
              refine hK _ ?_
              clear hK K'
              refine ord_run (v := .agg fillA.enc.toArray) rfl rfl (exec_build1 rfl (u := .bool true) rfl hbf) (fun K' hK => ?_)
              go_simp
              refine hK _ ?_
              clear hK K'
              refine ord_acts rfl rfl (fun K' hK => ?_)
              go_simp
              refine (kept_any ss hU.pull3 (.slice sa ss.length sc) (HRO.out.below hU.below) (by omega)).mono ?_
              rintro e wc ⟨rfl, hK2⟩
              refine hK _ _ (hK2.pull4.heap) ?_
              clear hK K'
              go_simp
              iterate 2 (refine ord_pure rfl rfl rfl (fun K' hK => ?_); go_big_quiet_op; refine hK _ ?_; clear hK K')
              refine ord_nil ?_
              have hV := hK2.drop.to (by ac_rfl : _ = blk bo (.cells OE 88) • ptab t (roomOf n) (R.filter fun x => !away ss x) next • qref b n (R.filter fun x => !away ss x) • emp)
              have hr2 : (R.filter fun x => !away ss x).length ≤ R.length + 1 := Nat.le_succ_of_le (List.length_filter_le _ _)
              have KN2 := Lib.hid (HKN.out.filter fun x => !away ss x)
              have hn2 := hnx
              clear hU hT hK2 hS7
              generalize (R.filter fun x => !away ss x) = R2 at *
              have hRl : R2.length ≤ 1000 := by omega
              obtain ⟨A, c, Z, Zv, hZ0, hz1, hz2, hz3, hz4, hz5, hz6, hz7⟩ := tail20 hV hRl q
              have Z1 := Lib.hid hz1
              have Z2 := Lib.hid hz2
              have Z3 := Lib.hid hz3
              have Z4 := Lib.hid hz4
              have Z5 := Lib.hid hz5
              have Z6 := Lib.hid hz6
              have Z7 := Lib.hid hz7
              have hZ := hZ0.drew
              clear hz1 hz2 hz3 hz4 hz5 hz6 hz7 hZ0 hV
              generalize R2.any (isQ q) = bh at *
              have hbb : (bh != bh) = false := by cases bh <;> rfl
              go_wp2_with fail
              try go_frame
              refine wp_region_ord [(0, .pure), (1, .pure), (2, .pure), (3, .pure), (5, .pure), (6, .pure), (7, .pure), (8, .quiet), (4, .acts), (9, .acts), (10, .pure), (11, .pure), (12, .pure), (13, .pure), (15, .pure), (16, .pure), (17, .pure), (18, .quiet), (19, .pure), (14, .acts), (20, .pure), (21, .pure), (22, .pure), (23, .pure), (24, .pure), (25, .quiet), (27, .pure), (28, .pure), (29, .quiet), (26, .acts), (30, .seals), (31, .pure), (32, .pure)] (by kernel_rfl) (by kernel_rfl)
                (fun w' => w'.heap[bo]? = some (.cells OE 88) ∧ w'.cell? ⟨b, 1, none⟩ = some (.slice A R2.length c)) (Z1.out _ hZ) ?_
              iterate 7 (refine ord_pure rfl rfl rfl (fun K' hK => ?_); go_big_quiet_op; refine hK _ ?_; clear hK K')
              refine ord_load (t := 77) rfl rfl rfl (p := .pointer (some ⟨b, 1, none⟩)) (v := .slice A R2.length c) rfl (fun w' hC => load_one Tryd.underlying77 rfl hC.2) (fun K' hK => ?_)
              go_simp
              refine hK _ ?_
              clear hK K'
              refine ord_acts rfl rfl (fun K' hK => ?_)
              go_simp
              refine (Z2.out _ hZ).mono ?_
              rintro e x1 ⟨A3, c3, rfl, hZ2⟩
              refine hK _ _ (Z3.out _ _ _ hZ2) ?_
              clear hK K'
              go_simp
              refine ord_acts rfl rfl (fun K' hK => ?_)
              go_simp
              refine (Z4.out _ _ _ hZ2).mono ?_
              rintro e x2 ⟨rfl, hZ3⟩
              refine hK _ _ (Z1.out _ hZ3) ?_
              clear hK K'
              go_simp
              iterate 7 (refine ord_pure rfl rfl rfl (fun K' hK => ?_); go_big_quiet_op; refine hK _ ?_; clear hK K')
              refine ord_load (t := 77) rfl rfl rfl (p := .pointer (some ⟨b, 1, none⟩)) (v := .slice A R2.length c) rfl (fun w' hC => load_one Tryd.underlying77 rfl hC.2) (fun K' hK => ?_)
              go_simp
              refine hK _ ?_
              clear hK K'
              iterate 1 (refine ord_pure rfl rfl rfl (fun K' hK => ?_); go_big_quiet_op; refine hK _ ?_; clear hK K')
              refine ord_acts rfl rfl (fun K' hK => ?_)
              go_simp
              refine (Z5.out _ hZ3).mono ?_
              rintro e x3 ⟨rfl, hZ4⟩
              refine hK _ _ (Z1.out _ hZ4) ?_
              clear hK K'
              go_simp
              iterate 5 (refine ord_pure rfl rfl rfl (fun K' hK => ?_); go_big_quiet_op; refine hK _ ?_; clear hK K')
              refine ord_load (t := 67) rfl rfl rfl (p := .pointer (some ⟨bo, 1, none⟩)) (v := .agg q.enc.toArray) rfl (fun w' hC => (HOF.out _ hC.1).2.2.2) (fun K' hK => ?_)
              go_simp
              refine hK _ ?_
              clear hK K'
              iterate 2 (refine ord_pure rfl rfl rfl (fun K' hK => ?_); go_big_quiet_op; refine hK _ ?_; clear hK K')
              refine ord_load (t := 67) rfl rfl rfl (p := .pointer (some ⟨bo, 1, none⟩)) (v := .agg q.enc.toArray) rfl (fun w' hC => (HOF.out _ hC.1).2.2.2) (fun K' hK => ?_)
              go_simp
              refine hK _ ?_
              clear hK K'
              refine ord_acts rfl rfl (fun K' hK => ?_)
              go_simp
              refine (Z6.out _ hZ4).mono ?_
              rintro e x4 ⟨rfl, hZ5⟩
              refine hK _ _ (Z1.out _ hZ5) ?_
              clear hK K'
              go_simp
              refine ord_seals rfl rfl (fun K' hK => ?_)
              go_simp
              refine (Z7.out _ hZ5).mono ?_
              rintro e x5 ⟨rfl, hY⟩
              refine hK (fun _ => True) _ _ trivial ?_
              clear hK K'
              go_simp
              iterate 2 (refine ord_pure rfl rfl rfl (fun K' hK => ?_); go_big_quiet_op; refine hK _ ?_; clear hK K')
              refine ord_nil ?_
              go_wp2_with fail
              go_roundw
              case rel => exact ⟨k + 1, R2, next, by omega, by omega, by omega, ⟨by omega, by omega⟩, KN2.out, by go_num, hY.pull2⟩
              case measure => simp [intOf]; omega
          · have hb3 : (ok == 3) = false := by simpa using h3
            clear h3
            go_wp2_with (first | (refine wpList_load_run (t := 88) rfl rfl rfl hld ?_) | (refine wpList_store_run (t := 88) rfl rfl rfl rfl (hst _ _ rfl) (stop_ ?_)))
            unfold Stop
            rw [HW.out, HOB.out]
            go_wp2_with fail
            try go_frame
            have hS5 := hS4.drew
            clear hld hst HW HOB
            have HKN := Lib.hid hkn
            clear hkn d0 d1 d2 hS4
            refine wp_region_ord [(0, .pure), (1, .pure), (2, .quiet), (3, .pure), (4, .quiet), (6, .pure), (7, .pure), (8, .quiet), (9, .pure), (10, .quiet), (5, .acts), (11, .acts), (12, .acts), (13, .pure)] (by kernel_rfl) (by kernel_rfl)
              (fun w' => w'.heap[bo]? = some (.cells OE 88)) hS5.heap ?_
            iterate 2 (refine ord_pure rfl rfl rfl (fun K' hK => ?_); go_big_quiet_op; refine hK _ ?_; clear hK K')
            refine ord_load (t := 67) rfl rfl rfl (p := .pointer (some ⟨bo, 1, none⟩)) (v := .agg q.enc.toArray) rfl (fun w' hC => (HOF.out _ hC).2.2.2) (fun K' hK => ?_)
            go_simp
            refine hK _ ?_
            clear hK K'
            iterate 1 (refine ord_pure rfl rfl rfl (fun K' hK => ?_); go_big_quiet_op; refine hK _ ?_; clear hK K')
            refine ord_load (t := 23) rfl rfl rfl (p := .pointer (some ⟨bo, 41, none⟩)) (v := .int .u64 oa) rfl (fun w' hC => load_one Tryd.underlying23 rfl (HOF.out _ hC).2.1) (fun K' hK => ?_)
            go_simp
            refine hK _ ?_
            clear hK K'
            iterate 2 (refine ord_pure rfl rfl rfl (fun K' hK => ?_); go_big_quiet_op; refine hK _ ?_; clear hK K')
            refine ord_load (t := 67) rfl rfl rfl (p := .pointer (some ⟨bo, 1, none⟩)) (v := .agg q.enc.toArray) rfl (fun w' hC => (HOF.out _ hC).2.2.2) (fun K' hK => ?_)
            go_simp
            refine hK _ ?_
            clear hK K'
            iterate 1 (refine ord_pure rfl rfl rfl (fun K' hK => ?_); go_big_quiet_op; refine hK _ ?_; clear hK K')
            refine ord_load (t := 23) rfl rfl rfl (p := .pointer (some ⟨bo, 41, none⟩)) (v := .int .u64 oa) rfl (fun w' hC => load_one Tryd.underlying23 rfl (HOF.out _ hC).2.1) (fun K' hK => ?_)
            go_simp
            refine hK _ ?_
            clear hK K'
            refine ord_acts rfl rfl (fun K' hK => ?_)
            go_simp
            refine (pAdd_any hS5.pull2 hE.pos hE HKN.out ⟨hnx.1, by omega⟩ q oa).mono ?_
            rintro e wa ⟨rfl, hT⟩
            refine hK _ _ (hT.pull2.heap) ?_
            clear hK K'
            go_simp
            refine ord_acts rfl rfl (fun K' hK => ?_)
            go_simp
            refine (qAdd_any hT.pull3 (by omega) HKN.out next q oa).mono ?_
            rintro e wb ⟨rfl, hU⟩
            refine hK _ _ (hU.pull3.heap) ?_
            clear hK K'
            go_simp
            refine ord_acts rfl rfl (fun K' hK => ?_)
            go_simp
            refine (same_any _ _ _ (hU.et hE.pos hE)).mono ?_
            rintro e wc ⟨rfl, hb⟩
            rw [beq_self_eq_true]
            have hV0 := hU.below_ hb
            refine hK _ _ ((hU.below_ hb).pull3.heap) ?_
            clear hK K'
            go_simp
            iterate 1 (refine ord_pure rfl rfl rfl (fun K' hK => ?_); go_big_quiet_op; refine hK _ ?_; clear hK K')
            refine ord_nil ?_
            have hV := hV0.to (by ac_rfl : _ = blk bo (.cells OE 88) • ptab t (roomOf n) (addR (roomOf n) R next q oa) (addN (roomOf n) R next q) • qref b n (addR (roomOf n) R next q oa) • emp)
            have hr2 := addR_le (roomOf n) R next q oa
            have hn2 := addN_le (roomOf n) R next q
            have KN2 := Lib.hid (HKN.out.add (roomOf n) next q oa)
            clear hV0 hU hT hS5
            generalize addR (roomOf n) R next q oa = R2 at *
            generalize addN (roomOf n) R next q = next2 at *
            have hRl : R2.length ≤ 1000 := by omega
            obtain ⟨A, c, Z, Zv, hZ0, hz1, hz2, hz3, hz4, hz5, hz6, hz7⟩ := tail20 hV hRl q
            have Z1 := Lib.hid hz1
            have Z2 := Lib.hid hz2
            have Z3 := Lib.hid hz3
            have Z4 := Lib.hid hz4
            have Z5 := Lib.hid hz5
            have Z6 := Lib.hid hz6
            have Z7 := Lib.hid hz7
            have hZ := hZ0.drew
            clear hz1 hz2 hz3 hz4 hz5 hz6 hz7 hZ0 hV
            generalize R2.any (isQ q) = bh at *
            have hbb : (bh != bh) = false := by cases bh <;> rfl
            go_wp2_with fail
            try go_frame
            refine wp_region_ord [(0, .pure), (1, .pure), (2, .pure), (3, .pure), (5, .pure), (6, .pure), (7, .pure), (8, .quiet), (4, .acts), (9, .acts), (10, .pure), (11, .pure), (12, .pure), (13, .pure), (15, .pure), (16, .pure), (17, .pure), (18, .quiet), (19, .pure), (14, .acts), (20, .pure), (21, .pure), (22, .pure), (23, .pure), (24, .pure), (25, .quiet), (27, .pure), (28, .pure), (29, .quiet), (26, .acts), (30, .seals), (31, .pure), (32, .pure)] (by kernel_rfl) (by kernel_rfl)
              (fun w' => w'.heap[bo]? = some (.cells OE 88) ∧ w'.cell? ⟨b, 1, none⟩ = some (.slice A R2.length c)) (Z1.out _ hZ) ?_
            iterate 7 (refine ord_pure rfl rfl rfl (fun K' hK => ?_); go_big_quiet_op; refine hK _ ?_; clear hK K')
            refine ord_load (t := 77) rfl rfl rfl (p := .pointer (some ⟨b, 1, none⟩)) (v := .slice A R2.length c) rfl (fun w' hC => load_one Tryd.underlying77 rfl hC.2) (fun K' hK => ?_)
            go_simp
            refine hK _ ?_
            clear hK K'
            refine ord_acts rfl rfl (fun K' hK => ?_)
            go_simp
            refine (Z2.out _ hZ).mono ?_
            rintro e x1 ⟨A3, c3, rfl, hZ2⟩
            refine hK _ _ (Z3.out _ _ _ hZ2) ?_
            clear hK K'
            go_simp
            refine ord_acts rfl rfl (fun K' hK => ?_)
            go_simp
            refine (Z4.out _ _ _ hZ2).mono ?_
            rintro e x2 ⟨rfl, hZ3⟩
            refine hK _ _ (Z1.out _ hZ3) ?_
            clear hK K'
            go_simp
            iterate 7 (refine ord_pure rfl rfl rfl (fun K' hK => ?_); go_big_quiet_op; refine hK _ ?_; clear hK K')
            refine ord_load (t := 77) rfl rfl rfl (p := .pointer (some ⟨b, 1, none⟩)) (v := .slice A R2.length c) rfl (fun w' hC => load_one Tryd.underlying77 rfl hC.2) (fun K' hK => ?_)
            go_simp
            refine hK _ ?_
            clear hK K'
            iterate 1 (refine ord_pure rfl rfl rfl (fun K' hK => ?_); go_big_quiet_op; refine hK _ ?_; clear hK K')
            refine ord_acts rfl rfl (fun K' hK => ?_)
            go_simp
            refine (Z5.out _ hZ3).mono ?_
            rintro e x3 ⟨rfl, hZ4⟩
            refine hK _ _ (Z1.out _ hZ4) ?_
            clear hK K'
            go_simp
            iterate 5 (refine ord_pure rfl rfl rfl (fun K' hK => ?_); go_big_quiet_op; refine hK _ ?_; clear hK K')
            refine ord_load (t := 67) rfl rfl rfl (p := .pointer (some ⟨bo, 1, none⟩)) (v := .agg q.enc.toArray) rfl (fun w' hC => (HOF.out _ hC.1).2.2.2) (fun K' hK => ?_)
            go_simp
            refine hK _ ?_
            clear hK K'
            iterate 2 (refine ord_pure rfl rfl rfl (fun K' hK => ?_); go_big_quiet_op; refine hK _ ?_; clear hK K')
            refine ord_load (t := 67) rfl rfl rfl (p := .pointer (some ⟨bo, 1, none⟩)) (v := .agg q.enc.toArray) rfl (fun w' hC => (HOF.out _ hC.1).2.2.2) (fun K' hK => ?_)
            go_simp
            refine hK _ ?_
            clear hK K'
            refine ord_acts rfl rfl (fun K' hK => ?_)
            go_simp
            refine (Z6.out _ hZ4).mono ?_
            rintro e x4 ⟨rfl, hZ5⟩
            refine hK _ _ (Z1.out _ hZ5) ?_
            clear hK K'
            go_simp
            refine ord_seals rfl rfl (fun K' hK => ?_)
            go_simp
            refine (Z7.out _ hZ5).mono ?_
            rintro e x5 ⟨rfl, hY⟩
            refine hK (fun _ => True) _ _ trivial ?_
            clear hK K'
            go_simp
            iterate 2 (refine ord_pure rfl rfl rfl (fun K' hK => ?_); go_big_quiet_op; refine hK _ ?_; clear hK K')
            refine ord_nil ?_
            go_wp2_with fail
            go_roundw
            case rel => exact ⟨k + 1, R2, next2, by omega, by omega, by omega, ⟨by omega, by omega⟩, KN2.out, by go_num, hY.pull2⟩
            case measure => simp [intOf]; omega
    · have hstop : (ops.length : Int) ≤ k ∨ ((k : Int) < ops.length ∧ (100 : Int) ≤ k) := by omega
      rcases hstop with h1 | ⟨h1, h2⟩
      · go_wp2_with fail
        go_ret
        exact ⟨rfl, hS.below⟩
      · go_wp2_with fail
        go_ret
        exact ⟨rfl, hS.below⟩
end Go.Proofs.YtepaanpdjadakaaDoor
