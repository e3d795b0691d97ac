import Derived.Test.YtepaanpdjadakaaDoorFPlayP
/-! FactsPlay's walk. -/
namespace Go.Proofs.YtepaanpdjadakaaDoor
open Go Go.RowKit

attribute [local irreducible] wpOrd
set_option maxRecDepth 8000 in
set_option maxHeartbeats 32000000 in
theorem fplays_any (n : Int) (v0 : Value) (ops : List FOp) (w : World) (r0 : RowsAt FOp.enc w v0 ops) (hE : Et w) :
    Calls Tryd.prog 13 #[.int .i64 n, v0] w fun e w' => e = .returned (.bool true) ∧ Below w.heap.size w w' := by
  obtain ⟨A0, cp0, rfl⟩ := r0.form
  have hol := r0.2
  unfold maxLen at hol
  have c1 := fNew_any n (Sat.start w)
  go_enter Tryd.func13, Tryd.ntmps13
  go_wp2_with fail
  refine c1.mono ?_
  rintro e w1 ⟨t, rfl, hS1⟩
  have hS2 : Sat w.heap.size w _ (fref w1.heap.size n (fcts []) • ftab t (roomOf n) [] 0 • emp) := Sat.fref_shut (L := fcts []) (v := .slice none 0 0) ((arr_nil (e := 99) (sz := 19) (hS1.alloc (.cells #[.int .i64 n, .slice none 0 0] 107))).to (by ac_rfl))
  generalize hb : w1.heap.size = b at *
  clear c1 hS1
  go_wp2_with fail
  refine (awake25_any _ (hS2.et hE.pos hE)).mono ?_
  rintro e w3 ⟨rfl, hb3⟩
  have hS3 := hS2.below_ hb3
  clear hS2 hb3 hb
  go_wp2_with fail
  go_loopw [7] (fun i wr => ∃ (k : Nat) (R : List (Itm Fk)) (next : Int), k ≤ ops.length ∧ k ≤ 100 ∧ R.length ≤ k ∧ (0 ≤ next ∧ next ≤ k) ∧ KNF R ∧ i = .int .i64 k ∧ Sat w.heap.size w wr (fref b n (fcts R) • ftab t (roomOf n) R next • emp)) (fun i _ => ops.length - (intOf i).toNat)
  case atStart => exact ⟨0, [], 0, Nat.zero_le _, by omega, Nat.le_refl _, ⟨by omega, by omega⟩, KNF.nil, rfl, hS3⟩
  case round =>
    clear hS3
    obtain ⟨k, R, next, hk, hk100, hRk, hnx, hkn, rfl, hS⟩ := hrel
    by_cases hlt : k < ops.length ∧ k < 100
    · obtain ⟨hl1, hl2⟩ := hlt
      obtain ⟨o, ho⟩ : ∃ o, ops[k]? = some o := ⟨_, List.getElem?_eq_getElem hl1⟩
      obtain ⟨a, ca, hva⟩ := r0.some_addr ho
      cases hva
      have hld := (r0.below hS.below).agg_at Tryd.underlying109 rfl (by kernel_rfl) FOp.enc_length ho rfl
      have hst : ∀ (W : World) (z : Array Value), z.size = 20 → (Instr.storeAt 109 (.pointer (some ⟨W.heap.size, 0, none⟩)) (.agg o.enc.toArray)).run Tryd.prog (W.alloc (.cells z 109)) = .ok () (W.alloc (.cells o.enc.toArray 109)) :=
        fun W z hz => run_storeAt_new (v := .agg o.enc.toArray) (by simp only [Value.cells, List.size_toArray, FOp.enc_length]; kernel_rfl) (by simp only [Value.cells, List.size_toArray, FOp.enc_length]; exact hz) (by simpa [Value.cells] using o.enc_one)
      have hof : ∀ (bo : Nat) (W : World), W.heap[bo]? = some (.cells o.enc.toArray 109) → W.cell? ⟨bo, 0, none⟩ = some (.int .i64 o.kind) ∧ W.cell? ⟨bo, 1, none⟩ = some (.string o.name) ∧ W.cell? ⟨bo, 19, none⟩ = some (.int .u64 o.at_) ∧ (Instr.loadAt 63 (.pointer (some ⟨bo, 2, none⟩))).run Tryd.prog W = .ok (.agg o.adr.enc.toArray) W := by
        intro bo W hW
        refine ⟨cell_heap hW (by simpa using o.at0), cell_heap hW (by simpa using o.at1), cell_heap hW (by simpa using o.at19), ?_⟩
        exact run_loadAt_row (cs := o.adr.enc) hW Tryd.underlying63 rfl (by rw [Adr.enc_length]; kernel_rfl) (fun j u hu => by simpa using o.at2 j u hu)
      have HOF := Lib.hid (hof wr.heap.size)
      have hS4 := (hS.alloc (.cells o.enc.toArray 109)).to (by ac_rfl : _ = blk wr.heap.size (.cells o.enc.toArray 109) • ftab t (roomOf n) R next • fref b n (fcts R) • emp)
      clear ho hS hof
      generalize hOE : o.enc.toArray = OE at *
      clear hOE
      obtain ⟨ok, on, oq, oa⟩ := o
      simp only at HOF
      have d0 := (HOF.out _ hS4.heap).1
      generalize hob : wr.heap.size = bo at *
      generalize hW : wr.alloc (.cells OE 109) = W at *
      have HOB := Lib.hid hob
      have HW := Lib.hid hW
      clear hob hW
      by_cases h1 : ok = 1
      · have hb1 : (ok == 1) = true := by simpa using h1
        clear h1
        go_wp2_with (first | (refine wpList_load_run (t := 109) rfl rfl rfl hld ?_) | (refine wpList_store_run (t := 109) rfl rfl rfl rfl (hst _ _ rfl) (stop_ ?_)))
        unfold Stop
        rw [HW.out, HOB.out]
        go_wp2_with fail
        try go_frame
        have hS5 := hS4.drew
        clear hld hst HW HOB
        have HKN := Lib.hid hkn
        clear hkn d0 hS4
        refine wp_region_ord [(0, .pure), (1, .pure), (2, .quiet), (4, .pure), (5, .pure), (6, .quiet), (3, .acts), (7, .acts), (8, .pure), (9, .pure)] (by kernel_rfl) (by kernel_rfl)
          (fun w' => w'.heap[bo]? = some (.cells OE 109)) hS5.heap ?_
        iterate 2 (refine ord_pure rfl rfl rfl (fun K' hK => ?_); go_big_quiet_op; refine hK _ ?_; clear hK K')
        refine ord_load (t := 23) rfl rfl rfl (p := .pointer (some ⟨bo, 19, none⟩)) (v := .int .u64 oa) rfl (fun w' hC => load_one Tryd.underlying23 rfl (HOF.out _ hC).2.2.1) (fun K' hK => ?_)
        go_simp
        refine hK _ ?_
        clear hK K'
        iterate 2 (refine ord_pure rfl rfl rfl (fun K' hK => ?_); go_big_quiet_op; refine hK _ ?_; clear hK K')
        refine ord_load (t := 23) rfl rfl rfl (p := .pointer (some ⟨bo, 19, none⟩)) (v := .int .u64 oa) rfl (fun w' hC => load_one Tryd.underlying23 rfl (HOF.out _ hC).2.2.1) (fun K' hK => ?_)
        go_simp
        refine hK _ ?_
        clear hK K'
        refine ord_acts rfl rfl (fun K' hK => ?_)
        go_simp
        refine (fExpire_any hS5.pull2 oa).mono ?_
        rintro e wa ⟨rfl, hT⟩
        refine hK _ _ (hT.pull2.heap) ?_
        clear hK K'
        go_simp
        refine ord_acts rfl rfl (fun K' hK => ?_)
        go_simp
        refine (rExpire_R hT.pull3 (by omega) oa).mono ?_
        rintro e wb ⟨rfl, hU⟩
        refine hK _ _ (hU.pull3.heap) ?_
        clear hK K'
        go_simp
        iterate 2 (refine ord_pure rfl rfl rfl (fun K' hK => ?_); go_big_quiet_op; refine hK _ ?_; clear hK K')
        refine ord_nil ?_
        have hV := hU.to (by ac_rfl : _ = blk bo (.cells OE 109) • ftab t (roomOf n) (R.filter fun x => !lateF oa x) next • fref b n (fcts (R.filter fun x => !lateF oa x)) • emp)
        have hr2 : (R.filter fun x => !lateF oa x).length ≤ R.length + 1 := Nat.le_succ_of_le (List.length_filter_le _ _)
        have KN2 := Lib.hid (HKN.out.filter fun x => !lateF oa x)
        have hn2 := hnx
        clear hU hT hS5
        generalize (R.filter fun x => !lateF oa x) = R2 at *
        have hRl : R2.length ≤ 1000 := by omega
        obtain ⟨A, c, Z, Zv, Zn, Zm, hZ0, hz1, hz2, hz3, hz4, hz5, hz6, hz7, hz8, hz9⟩ := tail15 hV hRl oq
        have Z1 := Lib.hid hz1
        have Z2 := Lib.hid hz2
        have Z3 := Lib.hid hz3
        have Z4 := Lib.hid hz4
        have Z5 := Lib.hid hz5
        have Z6 := Lib.hid hz6
        have Z7 := Lib.hid hz7
        have Z8 := Lib.hid hz8
        have Z9 := Lib.hid hz9
        have hZ := hZ0.drew
        clear hz1 hz2 hz3 hz4 hz5 hz6 hz7 hz8 hz9 hZ0 hV
        generalize (namesL (fcts R2) oq).length = nl at *
        generalize (fcts R2).length = fl at *
        have hff : ((fl : Int) != fl) = false := by simp
        go_wp2_with fail
        try go_frame
        refine wp_region_ord [(0, .pure), (1, .pure), (2, .pure), (3, .pure), (5, .pure), (6, .pure), (7, .pure), (8, .quiet), (4, .acts), (9, .acts), (10, .pure), (11, .pure), (12, .pure), (13, .pure), (15, .pure), (16, .pure), (17, .pure), (18, .quiet), (19, .pure), (14, .acts), (20, .pure), (21, .pure), (22, .pure), (23, .pure), (24, .pure), (25, .quiet), (27, .pure), (28, .pure), (29, .quiet), (26, .acts), (30, .seals), (31, .seals), (32, .pure), (33, .pure)] (by kernel_rfl) (by kernel_rfl)
          (fun w' => w'.heap[bo]? = some (.cells OE 109) ∧ w'.cell? ⟨b, 1, none⟩ = some (.slice A fl c)) (Z1.out _ hZ) ?_
        iterate 7 (refine ord_pure rfl rfl rfl (fun K' hK => ?_); go_big_quiet_op; refine hK _ ?_; clear hK K')
        refine ord_load (t := 100) rfl rfl rfl (p := .pointer (some ⟨b, 1, none⟩)) (v := .slice A fl c) rfl (fun w' hC => load_one Tryd.underlying100 rfl hC.2) (fun K' hK => ?_)
        go_simp
        refine hK _ ?_
        clear hK K'
        refine ord_acts rfl rfl (fun K' hK => ?_)
        go_simp
        refine (Z2.out _ hZ).mono ?_
        rintro e x1 ⟨A3, c3, rfl, hZ2⟩
        refine hK _ _ (Z3.out _ _ _ hZ2) ?_
        clear hK K'
        go_simp
        refine ord_acts rfl rfl (fun K' hK => ?_)
        go_simp
        refine (Z4.out _ _ _ hZ2).mono ?_
        rintro e x2 ⟨rfl, hZ3⟩
        refine hK _ _ (Z1.out _ hZ3) ?_
        clear hK K'
        go_simp
        iterate 7 (refine ord_pure rfl rfl rfl (fun K' hK => ?_); go_big_quiet_op; refine hK _ ?_; clear hK K')
        refine ord_load (t := 100) rfl rfl rfl (p := .pointer (some ⟨b, 1, none⟩)) (v := .slice A fl c) rfl (fun w' hC => load_one Tryd.underlying100 rfl hC.2) (fun K' hK => ?_)
        go_simp
        refine hK _ ?_
        clear hK K'
        iterate 1 (refine ord_pure rfl rfl rfl (fun K' hK => ?_); go_big_quiet_op; refine hK _ ?_; clear hK K')
        refine ord_acts rfl rfl (fun K' hK => ?_)
        go_simp
        refine (Z5.out _ hZ3).mono ?_
        rintro e x3 ⟨rfl, hZ4⟩
        refine hK _ _ (Z1.out _ hZ4) ?_
        clear hK K'
        go_simp
        iterate 5 (refine ord_pure rfl rfl rfl (fun K' hK => ?_); go_big_quiet_op; refine hK _ ?_; clear hK K')
        refine ord_load (t := 63) rfl rfl rfl (p := .pointer (some ⟨bo, 2, none⟩)) (v := .agg oq.enc.toArray) rfl (fun w' hC => (HOF.out _ hC.1).2.2.2) (fun K' hK => ?_)
        go_simp
        refine hK _ ?_
        clear hK K'
        iterate 2 (refine ord_pure rfl rfl rfl (fun K' hK => ?_); go_big_quiet_op; refine hK _ ?_; clear hK K')
        refine ord_load (t := 63) rfl rfl rfl (p := .pointer (some ⟨bo, 2, none⟩)) (v := .agg oq.enc.toArray) rfl (fun w' hC => (HOF.out _ hC.1).2.2.2) (fun K' hK => ?_)
        go_simp
        refine hK _ ?_
        clear hK K'
        refine ord_acts rfl rfl (fun K' hK => ?_)
        go_simp
        refine (Z6.out _ hZ4).mono ?_
        rintro e x4 ⟨A5, c5, rfl, hZ5⟩
        refine hK _ _ (Z7.out _ _ _ hZ5) ?_
        clear hK K'
        go_simp
        refine ord_seals rfl rfl (fun K' hK => ?_)
        go_simp
        refine (Z8.out _ _ _ hZ5).mono ?_
        rintro e x5 ⟨A6, c6, rfl, hZ6⟩
        refine hK (fun _ => True) _ _ trivial ?_
        clear hK K'
        go_simp
        refine ord_seals rfl rfl (fun K' hK => ?_)
        go_simp
        refine (Z9.out _ _ _ _ _ hZ6).mono ?_
        rintro e x6 ⟨rfl, hY⟩
        refine hK (fun _ => True) _ _ trivial ?_
        clear hK K'
        go_simp
        iterate 2 (refine ord_pure rfl rfl rfl (fun K' hK => ?_); go_big_quiet_op; refine hK _ ?_; clear hK K')
        refine ord_nil ?_
        go_wp2_with fail
        go_roundw
        case rel => exact ⟨k + 1, R2, next, by omega, by omega, by omega, ⟨by omega, by omega⟩, KN2.out, by go_num, hY.pull2⟩
        case measure => simp [intOf]; omega
      · have hb1 : (ok == 1) = false := by simpa using h1
        clear h1
        by_cases h2 : ok = 2
        · have hb2 : (ok == 2) = true := by simpa using h2
          clear h2
          go_wp2_with (first | (refine wpList_load_run (t := 109) rfl rfl rfl hld ?_) | (refine wpList_store_run (t := 109) rfl rfl rfl rfl (hst _ _ rfl) (stop_ ?_)))
          unfold Stop
          rw [HW.out, HOB.out]
          go_wp2_with fail
          try go_frame
          have hS5 := hS4.drew
          clear hld hst HW HOB
          have HKN := Lib.hid hkn
          clear hkn d0 hS4
          refine wp_region_ord [(0, .pure), (1, .pure), (2, .quiet), (4, .pure), (5, .pure), (6, .quiet), (3, .acts), (7, .acts), (8, .pure), (9, .pure)] (by kernel_rfl) (by kernel_rfl)
            (fun w' => w'.heap[bo]? = some (.cells OE 109)) hS5.heap ?_
          iterate 2 (refine ord_pure rfl rfl rfl (fun K' hK => ?_); go_big_quiet_op; refine hK _ ?_; clear hK K')
          refine ord_load (t := 9) rfl rfl rfl (p := .pointer (some ⟨bo, 1, none⟩)) (v := .string on) rfl (fun w' hC => load_one Tryd.underlying9 rfl (HOF.out _ hC).2.1) (fun K' hK => ?_)
          go_simp
          refine hK _ ?_
          clear hK K'
          iterate 2 (refine ord_pure rfl rfl rfl (fun K' hK => ?_); go_big_quiet_op; refine hK _ ?_; clear hK K')
          refine ord_load (t := 9) rfl rfl rfl (p := .pointer (some ⟨bo, 1, none⟩)) (v := .string on) rfl (fun w' hC => load_one Tryd.underlying9 rfl (HOF.out _ hC).2.1) (fun K' hK => ?_)
          go_simp
          refine hK _ ?_
          clear hK K'
          refine ord_acts rfl rfl (fun K' hK => ?_)
          go_simp
          refine (fDrop_any hS5.pull2 on).mono ?_
          rintro e wa ⟨rfl, hT⟩
          refine hK _ _ (hT.pull2.heap) ?_
          clear hK K'
          go_simp
          refine ord_acts rfl rfl (fun K' hK => ?_)
          go_simp
          refine (rDrop_R hT.pull3 (by omega) on).mono ?_
          rintro e wb ⟨rfl, hU⟩
          refine hK _ _ (hU.pull3.heap) ?_
          clear hK K'
          go_simp
          iterate 2 (refine ord_pure rfl rfl rfl (fun K' hK => ?_); go_big_quiet_op; refine hK _ ?_; clear hK K')
          refine ord_nil ?_
          have hV := hU.to (by ac_rfl : _ = blk bo (.cells OE 109) • ftab t (roomOf n) (R.filter fun x => !isN on x) next • fref b n (fcts (R.filter fun x => !isN on x)) • emp)
          have hr2 : (R.filter fun x => !isN on x).length ≤ R.length + 1 := Nat.le_succ_of_le (List.length_filter_le _ _)
          have KN2 := Lib.hid (HKN.out.filter fun x => !isN on x)
          have hn2 := hnx
          clear hU hT hS5
          generalize (R.filter fun x => !isN on x) = R2 at *
          have hRl : R2.length ≤ 1000 := by omega
          obtain ⟨A, c, Z, Zv, Zn, Zm, hZ0, hz1, hz2, hz3, hz4, hz5, hz6, hz7, hz8, hz9⟩ := tail15 hV hRl oq
          have Z1 := Lib.hid hz1
          have Z2 := Lib.hid hz2
          have Z3 := Lib.hid hz3
          have Z4 := Lib.hid hz4
          have Z5 := Lib.hid hz5
          have Z6 := Lib.hid hz6
          have Z7 := Lib.hid hz7
          have Z8 := Lib.hid hz8
          have Z9 := Lib.hid hz9
          have hZ := hZ0.drew
          clear hz1 hz2 hz3 hz4 hz5 hz6 hz7 hz8 hz9 hZ0 hV
          generalize (namesL (fcts R2) oq).length = nl at *
          generalize (fcts R2).length = fl at *
          have hff : ((fl : Int) != fl) = false := by simp
          go_wp2_with fail
          try go_frame
          refine wp_region_ord [(0, .pure), (1, .pure), (2, .pure), (3, .pure), (5, .pure), (6, .pure), (7, .pure), (8, .quiet), (4, .acts), (9, .acts), (10, .pure), (11, .pure), (12, .pure), (13, .pure), (15, .pure), (16, .pure), (17, .pure), (18, .quiet), (19, .pure), (14, .acts), (20, .pure), (21, .pure), (22, .pure), (23, .pure), (24, .pure), (25, .quiet), (27, .pure), (28, .pure), (29, .quiet), (26, .acts), (30, .seals), (31, .seals), (32, .pure), (33, .pure)] (by kernel_rfl) (by kernel_rfl)
            (fun w' => w'.heap[bo]? = some (.cells OE 109) ∧ w'.cell? ⟨b, 1, none⟩ = some (.slice A fl c)) (Z1.out _ hZ) ?_
          iterate 7 (refine ord_pure rfl rfl rfl (fun K' hK => ?_); go_big_quiet_op; refine hK _ ?_; clear hK K')
          refine ord_load (t := 100) rfl rfl rfl (p := .pointer (some ⟨b, 1, none⟩)) (v := .slice A fl c) rfl (fun w' hC => load_one Tryd.underlying100 rfl hC.2) (fun K' hK => ?_)
          go_simp
          refine hK _ ?_
          clear hK K'
          refine ord_acts rfl rfl (fun K' hK => ?_)
          go_simp
          refine (Z2.out _ hZ).mono ?_
          rintro e x1 ⟨A3, c3, rfl, hZ2⟩
          refine hK _ _ (Z3.out _ _ _ hZ2) ?_
          clear hK K'
          go_simp
          refine ord_acts rfl rfl (fun K' hK => ?_)
          go_simp
          refine (Z4.out _ _ _ hZ2).mono ?_
          rintro e x2 ⟨rfl, hZ3⟩
          refine hK _ _ (Z1.out _ hZ3) ?_
          clear hK K'
          go_simp
          iterate 7 (refine ord_pure rfl rfl rfl (fun K' hK => ?_); go_big_quiet_op; refine hK _ ?_; clear hK K')
          refine ord_load (t := 100) rfl rfl rfl (p := .pointer (some ⟨b, 1, none⟩)) (v := .slice A fl c) rfl (fun w' hC => load_one Tryd.underlying100 rfl hC.2) (fun K' hK => ?_)
          go_simp
          refine hK _ ?_
          clear hK K'
          iterate 1 (refine ord_pure rfl rfl rfl (fun K' hK => ?_); go_big_quiet_op; refine hK _ ?_; clear hK K')
          refine ord_acts rfl rfl (fun K' hK => ?_)
          go_simp
          refine (Z5.out _ hZ3).mono ?_
          rintro e x3 ⟨rfl, hZ4⟩
          refine hK _ _ (Z1.out _ hZ4) ?_
          clear hK K'
          go_simp
          iterate 5 (refine ord_pure rfl rfl rfl (fun K' hK => ?_); go_big_quiet_op; refine hK _ ?_; clear hK K')
          refine ord_load (t := 63) rfl rfl rfl (p := .pointer (some ⟨bo, 2, none⟩)) (v := .agg oq.enc.toArray) rfl (fun w' hC => (HOF.out _ hC.1).2.2.2) (fun K' hK => ?_)
          go_simp
          refine hK _ ?_
          clear hK K'
          iterate 2 (refine ord_pure rfl rfl rfl (fun K' hK => ?_); go_big_quiet_op; refine hK _ ?_; clear hK K')
          refine ord_load (t := 63) rfl rfl rfl (p := .pointer (some ⟨bo, 2, none⟩)) (v := .agg oq.enc.toArray) rfl (fun w' hC => (HOF.out _ hC.1).2.2.2) (fun K' hK => ?_)
          go_simp
          refine hK _ ?_
          clear hK K'
          refine ord_acts rfl rfl (fun K' hK => ?_)
          go_simp
          refine (Z6.out _ hZ4).mono ?_
          rintro e x4 ⟨A5, c5, rfl, hZ5⟩
          refine hK _ _ (Z7.out _ _ _ hZ5) ?_
          clear hK K'
          go_simp
          refine ord_seals rfl rfl (fun K' hK => ?_)
          go_simp
          refine (Z8.out _ _ _ hZ5).mono ?_
          rintro e x5 ⟨A6, c6, rfl, hZ6⟩
          refine hK (fun _ => True) _ _ trivial ?_
          clear hK K'
          go_simp
          refine ord_seals rfl rfl (fun K' hK => ?_)
          go_simp
          refine (Z9.out _ _ _ _ _ hZ6).mono ?_
          rintro e x6 ⟨rfl, hY⟩
          refine hK (fun _ => True) _ _ trivial ?_
          clear hK K'
          go_simp
          iterate 2 (refine ord_pure rfl rfl rfl (fun K' hK => ?_); go_big_quiet_op; refine hK _ ?_; clear hK K')
          refine ord_nil ?_
          go_wp2_with fail
          go_roundw
          case rel => exact ⟨k + 1, R2, next, by omega, by omega, by omega, ⟨by omega, by omega⟩, KN2.out, by go_num, hY.pull2⟩
          case measure => simp [intOf]; omega
        · have hb2 : (ok == 2) = false := by simpa using h2
          clear h2
          go_wp2_with (first | (refine wpList_load_run (t := 109) rfl rfl rfl hld ?_) | (refine wpList_store_run (t := 109) rfl rfl rfl rfl (hst _ _ rfl) (stop_ ?_)))
          unfold Stop
          rw [HW.out, HOB.out]
          go_wp2_with fail
          try go_frame
          have hS5 := hS4.drew
          clear hld hst HW HOB
          have HKN := Lib.hid hkn
          clear hkn d0 hS4
          refine wp_region_ord [(0, .pure), (1, .pure), (2, .quiet), (3, .pure), (4, .quiet), (5, .pure), (6, .quiet), (8, .pure), (9, .pure), (10, .quiet), (11, .pure), (12, .quiet), (13, .pure), (14, .quiet), (7, .acts), (15, .acts), (16, .acts), (17, .pure)] (by kernel_rfl) (by kernel_rfl)
            (fun w' => w'.heap[bo]? = some (.cells OE 109)) hS5.heap ?_
          iterate 2 (refine ord_pure rfl rfl rfl (fun K' hK => ?_); go_big_quiet_op; refine hK _ ?_; clear hK K')
          refine ord_load (t := 9) rfl rfl rfl (p := .pointer (some ⟨bo, 1, none⟩)) (v := .string on) rfl (fun w' hC => load_one Tryd.underlying9 rfl (HOF.out _ hC).2.1) (fun K' hK => ?_)
          go_simp
          refine hK _ ?_
          clear hK K'
          iterate 1 (refine ord_pure rfl rfl rfl (fun K' hK => ?_); go_big_quiet_op; refine hK _ ?_; clear hK K')
          refine ord_load (t := 63) rfl rfl rfl (p := .pointer (some ⟨bo, 2, none⟩)) (v := .agg oq.enc.toArray) rfl (fun w' hC => (HOF.out _ hC).2.2.2) (fun K' hK => ?_)
          go_simp
          refine hK _ ?_
          clear hK K'
          iterate 1 (refine ord_pure rfl rfl rfl (fun K' hK => ?_); go_big_quiet_op; refine hK _ ?_; clear hK K')
          refine ord_load (t := 23) rfl rfl rfl (p := .pointer (some ⟨bo, 19, none⟩)) (v := .int .u64 oa) rfl (fun w' hC => load_one Tryd.underlying23 rfl (HOF.out _ hC).2.2.1) (fun K' hK => ?_)
          go_simp
          refine hK _ ?_
          clear hK K'
          iterate 2 (refine ord_pure rfl rfl rfl (fun K' hK => ?_); go_big_quiet_op; refine hK _ ?_; clear hK K')
          refine ord_load (t := 9) rfl rfl rfl (p := .pointer (some ⟨bo, 1, none⟩)) (v := .string on) rfl (fun w' hC => load_one Tryd.underlying9 rfl (HOF.out _ hC).2.1) (fun K' hK => ?_)
          go_simp
          refine hK _ ?_
          clear hK K'
          iterate 1 (refine ord_pure rfl rfl rfl (fun K' hK => ?_); go_big_quiet_op; refine hK _ ?_; clear hK K')
          refine ord_load (t := 63) rfl rfl rfl (p := .pointer (some ⟨bo, 2, none⟩)) (v := .agg oq.enc.toArray) rfl (fun w' hC => (HOF.out _ hC).2.2.2) (fun K' hK => ?_)
          go_simp
          refine hK _ ?_
          clear hK K'
          iterate 1 (refine ord_pure rfl rfl rfl (fun K' hK => ?_); go_big_quiet_op; refine hK _ ?_; clear hK K')
          refine ord_load (t := 23) rfl rfl rfl (p := .pointer (some ⟨bo, 19, none⟩)) (v := .int .u64 oa) rfl (fun w' hC => load_one Tryd.underlying23 rfl (HOF.out _ hC).2.2.1) (fun K' hK => ?_)
          go_simp
          refine hK _ ?_
          clear hK K'
          refine ord_acts rfl rfl (fun K' hK => ?_)
          go_simp
          refine (fLearn_any hS5.pull2 hE.pos hE HKN.out ⟨hnx.1, by omega⟩ on oq oa).mono ?_
          rintro e wa ⟨rfl, hT⟩
          refine hK _ _ (hT.pull2.heap) ?_
          clear hK K'
          go_simp
          refine ord_acts rfl rfl (fun K' hK => ?_)
          go_simp
          refine (rLearn_R hT.pull3 (by omega) HKN.out next on oq oa).mono ?_
          rintro e wb ⟨rfl, hU⟩
          refine hK _ _ (hU.pull3.heap) ?_
          clear hK K'
          go_simp
          refine ord_acts rfl rfl (fun K' hK => ?_)
          go_simp
          refine (same_any _ _ _ (hU.et hE.pos hE)).mono ?_
          rintro e wc ⟨rfl, hb⟩
          rw [beq_self_eq_true]
          have hV0 := hU.below_ hb
          refine hK _ _ ((hU.below_ hb).pull3.heap) ?_
          clear hK K'
          go_simp
          iterate 1 (refine ord_pure rfl rfl rfl (fun K' hK => ?_); go_big_quiet_op; refine hK _ ?_; clear hK K')
          refine ord_nil ?_
          have hV := hV0.to (by ac_rfl : _ = blk bo (.cells OE 109) • ftab t (roomOf n) (lrnR (roomOf n) R next ⟨on, oq⟩ oa) (lrnN (roomOf n) R next ⟨on, oq⟩) • fref b n (fcts (lrnR (roomOf n) R next ⟨on, oq⟩ oa)) • emp)
          have hr2 := lrnR_le (roomOf n) R next ⟨on, oq⟩ oa
          have hn2 := lrnN_le (roomOf n) R next ⟨on, oq⟩
          have KN2 := Lib.hid (HKN.out.add (roomOf n) next ⟨on, oq⟩ oa)
          clear hV0 hU hT hS5
          generalize lrnR (roomOf n) R next ⟨on, oq⟩ oa = R2 at *
          generalize lrnN (roomOf n) R next ⟨on, oq⟩ = next2 at *
          have hRl : R2.length ≤ 1000 := by omega
          obtain ⟨A, c, Z, Zv, Zn, Zm, hZ0, hz1, hz2, hz3, hz4, hz5, hz6, hz7, hz8, hz9⟩ := tail15 hV hRl oq
          have Z1 := Lib.hid hz1
          have Z2 := Lib.hid hz2
          have Z3 := Lib.hid hz3
          have Z4 := Lib.hid hz4
          have Z5 := Lib.hid hz5
          have Z6 := Lib.hid hz6
          have Z7 := Lib.hid hz7
          have Z8 := Lib.hid hz8
          have Z9 := Lib.hid hz9
          have hZ := hZ0.drew
          clear hz1 hz2 hz3 hz4 hz5 hz6 hz7 hz8 hz9 hZ0 hV
          generalize (namesL (fcts R2) oq).length = nl at *
          generalize (fcts R2).length = fl at *
          have hff : ((fl : Int) != fl) = false := by simp
          go_wp2_with fail
          try go_frame
          refine wp_region_ord [(0, .pure), (1, .pure), (2, .pure), (3, .pure), (5, .pure), (6, .pure), (7, .pure), (8, .quiet), (4, .acts), (9, .acts), (10, .pure), (11, .pure), (12, .pure), (13, .pure), (15, .pure), (16, .pure), (17, .pure), (18, .quiet), (19, .pure), (14, .acts), (20, .pure), (21, .pure), (22, .pure), (23, .pure), (24, .pure), (25, .quiet), (27, .pure), (28, .pure), (29, .quiet), (26, .acts), (30, .seals), (31, .seals), (32, .pure), (33, .pure)] (by kernel_rfl) (by kernel_rfl)
            (fun w' => w'.heap[bo]? = some (.cells OE 109) ∧ w'.cell? ⟨b, 1, none⟩ = some (.slice A fl c)) (Z1.out _ hZ) ?_
          iterate 7 (refine ord_pure rfl rfl rfl (fun K' hK => ?_); go_big_quiet_op; refine hK _ ?_; clear hK K')
          refine ord_load (t := 100) rfl rfl rfl (p := .pointer (some ⟨b, 1, none⟩)) (v := .slice A fl c) rfl (fun w' hC => load_one Tryd.underlying100 rfl hC.2) (fun K' hK => ?_)
          go_simp
          refine hK _ ?_
          clear hK K'
          refine ord_acts rfl rfl (fun K' hK => ?_)
          go_simp
          refine (Z2.out _ hZ).mono ?_
          rintro e x1 ⟨A3, c3, rfl, hZ2⟩
          refine hK _ _ (Z3.out _ _ _ hZ2) ?_
          clear hK K'
          go_simp
          refine ord_acts rfl rfl (fun K' hK => ?_)
          go_simp
          refine (Z4.out _ _ _ hZ2).mono ?_
          rintro e x2 ⟨rfl, hZ3⟩
          refine hK _ _ (Z1.out _ hZ3) ?_
          clear hK K'
          go_simp
          iterate 7 (refine ord_pure rfl rfl rfl (fun K' hK => ?_); go_big_quiet_op; refine hK _ ?_; clear hK K')
          refine ord_load (t := 100) rfl rfl rfl (p := .pointer (some ⟨b, 1, none⟩)) (v := .slice A fl c) rfl (fun w' hC => load_one Tryd.underlying100 rfl hC.2) (fun K' hK => ?_)
          go_simp
          refine hK _ ?_
          clear hK K'
          iterate 1 (refine ord_pure rfl rfl rfl (fun K' hK => ?_); go_big_quiet_op; refine hK _ ?_; clear hK K')
          refine ord_acts rfl rfl (fun K' hK => ?_)
          go_simp
          refine (Z5.out _ hZ3).mono ?_
          rintro e x3 ⟨rfl, hZ4⟩
          refine hK _ _ (Z1.out _ hZ4) ?_
          clear hK K'
          go_simp
          iterate 5 (refine ord_pure rfl rfl rfl (fun K' hK => ?_); go_big_quiet_op; refine hK _ ?_; clear hK K')
          refine ord_load (t := 63) rfl rfl rfl (p := .pointer (some ⟨bo, 2, none⟩)) (v := .agg oq.enc.toArray) rfl (fun w' hC => (HOF.out _ hC.1).2.2.2) (fun K' hK => ?_)
          go_simp
          refine hK _ ?_
          clear hK K'
          iterate 2 (refine ord_pure rfl rfl rfl (fun K' hK => ?_); go_big_quiet_op; refine hK _ ?_; clear hK K')
          refine ord_load (t := 63) rfl rfl rfl (p := .pointer (some ⟨bo, 2, none⟩)) (v := .agg oq.enc.toArray) rfl (fun w' hC => (HOF.out _ hC.1).2.2.2) (fun K' hK => ?_)
          go_simp
          refine hK _ ?_
          clear hK K'
          refine ord_acts rfl rfl (fun K' hK => ?_)
          go_simp
          refine (Z6.out _ hZ4).mono ?_
          rintro e x4 ⟨A5, c5, rfl, hZ5⟩
          refine hK _ _ (Z7.out _ _ _ hZ5) ?_
          clear hK K'
          go_simp
          refine ord_seals rfl rfl (fun K' hK => ?_)
          go_simp
          refine (Z8.out _ _ _ hZ5).mono ?_
          rintro e x5 ⟨A6, c6, rfl, hZ6⟩
          refine hK (fun _ => True) _ _ trivial ?_
          clear hK K'
          go_simp
          refine ord_seals rfl rfl (fun K' hK => ?_)
          go_simp
          refine (Z9.out _ _ _ _ _ hZ6).mono ?_
          rintro e x6 ⟨rfl, hY⟩
          refine hK (fun _ => True) _ _ trivial ?_
          clear hK K'
          go_simp
          iterate 2 (refine ord_pure rfl rfl rfl (fun K' hK => ?_); go_big_quiet_op; refine hK _ ?_; clear hK K')
          refine ord_nil ?_
          go_wp2_with fail
          go_roundw
          case rel => exact ⟨k + 1, R2, next2, by omega, by omega, by omega, ⟨by omega, by omega⟩, KN2.out, by go_num, hY.pull2⟩
          case measure => simp [intOf]; omega
    · have hstop : (ops.length : Int) ≤ k ∨ ((k : Int) < ops.length ∧ (100 : Int) ≤ k) := by omega
      rcases hstop with h1 | ⟨h1, h2⟩
      · go_wp2_with fail
        go_ret
        exact ⟨rfl, hS.below⟩
      · go_wp2_with fail
        go_ret
        exact ⟨rfl, hS.below⟩
end Go.Proofs.YtepaanpdjadakaaDoor
