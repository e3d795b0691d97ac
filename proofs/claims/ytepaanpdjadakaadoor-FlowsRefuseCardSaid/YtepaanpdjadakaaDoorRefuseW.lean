import Derived.Test.YtepaanpdjadakaaDoorRefuseP
/-! FlowsRefuse's walk. -/
namespace Go.Proofs.YtepaanpdjadakaaDoor
open Go Go.RowKit

attribute [local irreducible] wpOrd
set_option maxRecDepth 8000 in
set_option maxHeartbeats 32000000 in
theorem refuse_any (v0 : Value) (ops : List WOp) (now : Int) (w : World) (r0 : RowsAt WOp.enc w v0 ops) (wn : (Lit.int .u64 now).wf = true) (hE : Et w) :
    Calls Tryd.prog 17 #[v0, .int .u64 now] w fun e w' => e = .returned (.bool true) ∧ Below w.heap.size w w' := by
  obtain ⟨A0, cp0, rfl⟩ := r0.form
  have hol := r0.2
  unfold maxLen at hol
  obtain ⟨hn0, hn1⟩ := wf_u64 wn
  obtain ⟨nn, hnn⟩ : ∃ nn, nn = now % 1000 := ⟨_, rfl⟩
  have hnb : 0 ≤ nn ∧ nn < 1000 := by omega
  have htm : now.tmod 1000 = nn := by rw [Int.tmod_eq_emod_of_nonneg hn0, hnn]
  have HTM := Lib.hid htm
  have HTM2 := Lib.hid hnn.symm
  clear hnn htm wn
  have c1 := flNew_any 1 (Sat.start w)
  rw [show roomOf 1 = 1 by decide] at c1
  have hw0 := fun W : World => way_any 0 W
  simp only [way0] at hw0
  have HW := Lib.hid hw0
  clear hw0
  obtain ⟨q0, hq0⟩ : ∃ q0, q0 = tupP 6 0 := ⟨_, rfl⟩
  have hp : q0.proto = 6 := by rw [hq0]; rfl
  have HP := Lib.hid hp
  have hbq : beginsF q0.proto 2 = true ∧ begP q0 = ⟨1, 0⟩ ∧ begU q0 0 = 30 := by rw [hq0]; decide
  have HBQ := Lib.hid hbq
  rw [← hq0] at HW
  obtain ⟨QE, hQE⟩ : ∃ QE, QE = q0.enc.toArray := ⟨_, rfl⟩
  rw [← hQE] at HW
  have HQE := Lib.hid hQE
  clear hp hbq hq0 hQE
  go_enter Tryd.func17, Tryd.ntmps17
  go_wp2_with fail
  refine c1.mono ?_
  rintro e w1 ⟨t, rfl, hS1⟩
  clear c1
  go_wp2_with fail
  refine (awake26_any _ (hS1.et hE.pos hE)).mono ?_
  rintro e w2 ⟨rfl, hb2⟩
  have hS2 := hS1.below_ hb2
  clear hS1 hb2
  go_wp2_with fail
  refine (HW.out _).mono ?_
  rintro e w3 ⟨rfl, hb3⟩
  have c3 := beg1 (q := q0) (flags := 2) (now := 0) (hS2.below_ hb3) hE.pos hE (by omega) (by omega) HBQ.out.1
  rw [HBQ.out.2.1, HBQ.out.2.2, ← HQE.out] at c3
  clear hS2 hb3
  go_wp2_with fail
  refine c3.mono ?_
  rintro e w4 ⟨p, rfl, hS4⟩
  clear c3
  go_wp2_with fail
  try rw [HTM.out]
  try rw [HTM2.out]
  go_loopw [6] (fun i wr => ∃ (k : Nat) (R : List FIt), k ≤ ops.length ∧ k ≤ 60 ∧ i = .int .i64 k ∧ Sat w.heap.size w wr (fltab t 1 R 1 • emp) ∧ Hid (RefI R q0)) (fun i _ => ops.length - (intOf i).toNat)
  case atStart => exact ⟨0, _, Nat.zero_le _, by omega, rfl, hS4, Lib.hid (.inr ⟨p, ⟨1, 0⟩, 30, rfl, ⟨by decide, by decide⟩⟩)⟩
  case round =>
    clear hS4
    obtain ⟨k, R, hk, hk60, rfl, hS, HR⟩ := hrel
    by_cases hlt : k < ops.length ∧ k < 60
    · obtain ⟨hl1, hl2⟩ := hlt
      obtain ⟨o, ho⟩ : ∃ o, ops[k]? = some o := ⟨_, List.getElem?_eq_getElem hl1⟩
      obtain ⟨a, ca, hva⟩ := r0.some_addr ho
      cases hva
      have hrow : ∀ W, Below w.heap.size w W → W.cell? ((a.add (k * 5)).add 2) = some (.int .i64 o.side) ∧ W.cell? ((a.add (k * 5)).add 3) = some (.int .i64 o.flags) := by
        intro W hW
        obtain ⟨a', c', hv', hc'⟩ := (r0.below hW).1.elem WOp.enc_length ho
        simp only [Value.slice.injEq, Option.some.injEq] at hv'
        obtain ⟨rfl, _, _⟩ := hv'
        exact ⟨by rw [add_add']; exact hc' 2 _ rfl, by rw [add_add']; exact hc' 3 _ rfl⟩
      have HROW := Lib.hid hrow
      obtain ⟨f1, f2, th, ok, st, R', g1, g2, g3, g4, g5, g6⟩ := refuse_cases HP.out HR.out o.side o.flags nn hnb
      have hk1 : (k : Int) < ops.length := by omega
      have hk2 : (k : Int) < 60 := by omega
      have G1 := Lib.hid g1
      have G2 := Lib.hid g2
      have G3 := Lib.hid g3
      have G4 := Lib.hid g4
      have G5 := Lib.hid g5
      have HEQ := Lib.hid (fun w : World => (flw_eq 9995 f1 f2 : EqV Tryd.prog w 10000 126 _ _ (decide (f1 = f2))))
      have HET := Lib.hid (fun (q : Tup) (w : World) => (tup_eq 9996 q q0 : EqV Tryd.prog w 10000 121 _ _ (decide (q = q0))))
      clear g1 g2 g3 g4 g5 hrow ho HR
      generalize o.side = sd at *
      generalize o.flags = fl at *
      rcases g6 with ⟨rfl, rfl, rfl, hff⟩ | ⟨rfl, rfl, rfl, hff⟩ | ⟨rfl, rfl, rfl, hsd⟩ | ⟨rfl, rfl, rfl, hsd, hdu, hs1, hs5, htq⟩
      · have hsd : True := trivial
        go_wp2_with fail
        refine (HW.out _).mono ?_
        rintro e w5 ⟨rfl, hb5⟩
        have c5 := flGet_any (hS.below_ hb5) q0
        rw [G1.out, ← HQE.out] at c5
        clear hS hb5
        go_wp2_with fail
        refine c5.mono ?_
        rintro e w6 ⟨rfl, hS6⟩
        have hst := flw_storeN f1
        have hX := (hS6.alloc (.cells f1.enc.toArray 126)).pull2
        generalize hF1 : f1.enc.toArray = FE1 at *
        generalize hb7 : w6.heap.size = b7 at *
        generalize hW7 : w6.alloc (.cells FE1 126) = w7 at *
        have HB7 := Lib.hid (And.intro hb7 hW7)
        clear c5 hS6 hb7 hW7
        go_wp2_with (refine wpList_store_run (t := 126) rfl rfl rfl rfl (hst _ _ rfl) (stop_ ?_))
        unfold Stop
        try rw [HB7.out.2]
        try rw [HB7.out.1]
        clear hst HB7
        go_wp2_with fail
        try go_frame
        have hX8 := hX.drew
        clear hX
        refine wp_region_ord [(0, .pure), (2, .pure), (3, .pure), (4, .pure), (5, .pure), (6, .quiet), (7, .pure), (8, .pure), (9, .pure), (10, .pure), (11, .quiet), (12, .pure), (1, .acts), (13, .seals), (14, .pure)] (by kernel_rfl) (by kernel_rfl)
          (fun w' => Below w.heap.size w w') hX8.below ?_
        iterate 5 (refine ord_pure rfl rfl rfl (fun K' hK => ?_); go_big_quiet_op; refine hK _ ?_; clear hK K')
        refine ord_load (t := 3) rfl rfl rfl (p := .pointer (some ((a.add (k * 5)).add 2))) (v := .int .i64 sd) rfl (fun w' hC => load_one Tryd.underlying3 rfl (HROW.out _ hC).1) (fun K' hK => ?_)
        go_simp
        refine hK _ ?_
        clear hK K'
        iterate 4 (refine ord_pure rfl rfl rfl (fun K' hK => ?_); go_big_quiet_op; refine hK _ ?_; clear hK K')
        refine ord_load (t := 3) rfl rfl rfl (p := .pointer (some ((a.add (k * 5)).add 3))) (v := .int .i64 fl) rfl (fun w' hC => load_one Tryd.underlying3 rfl (HROW.out _ hC).2) (fun K' hK => ?_)
        go_simp
        refine hK _ ?_
        clear hK K'
        iterate 1 (refine ord_pure rfl rfl rfl (fun K' hK => ?_); go_big_quiet_op; refine hK _ ?_; clear hK K')
        refine ord_acts rfl rfl (fun K' hK => ?_)
        go_simp
        refine (HW.out _).mono ?_
        rintro e w9 ⟨rfl, hb9⟩
        have hX9 := hX8.below_ hb9
        refine hK _ _ (hX9.below) ?_
        clear hK K'
        go_simp
        have c10 := flSee_any hX9 G5.out q0 sd fl nn hnb.1 (by omega)
        rw [G2.out, ← HQE.out] at c10
        dsimp only at c10
        refine ord_seals rfl rfl (fun K' hK => ?_)
        go_simp
        refine (c10).mono ?_
        rintro e w10 ⟨rfl, hS10⟩
        refine hK (fun _ => True) _ _ trivial ?_
        clear hK K'
        go_simp
        iterate 1 (refine ord_pure rfl rfl rfl (fun K' hK => ?_); go_big_quiet_op; refine hK _ ?_; clear hK K')
        refine ord_nil ?_
        clear hX8
        go_wp2_with fail
        refine (HW.out _).mono ?_
        rintro e w11 ⟨rfl, hb11⟩
        have c11 := flGet_any (hS10.below_ hb11) q0
        rw [G3.out, ← HQE.out] at c11
        clear hS10 hb11
        go_wp2_with fail
        refine c11.mono ?_
        rintro e w12 ⟨rfl, hS12⟩
        have hst := flw_storeN f2
        have hX := hS12.alloc (.cells f2.enc.toArray 126)
        generalize hF2 : f2.enc.toArray = FE2 at *
        generalize hb13 : w12.heap.size = b13 at *
        generalize hW13 : w12.alloc (.cells FE2 126) = w13 at *
        have HB13 := Lib.hid (And.intro hb13 hW13)
        clear c11 hS12 hb13 hW13
        go_wp2_with (refine wpList_store_run (t := 126) rfl rfl rfl rfl (hst _ _ rfl) (stop_ ?_))
        unfold Stop
        try rw [HB13.out.2]
        try rw [HB13.out.1]
        clear hst HB13
        have hXb := hX.below
        obtain ⟨rs1, rs2⟩ := HROW.out _ hXb
        subst hff
        rw [hF1] at hF2
        subst hF2
        have he := HEQ.out w13
        rw [decide_eq_true rfl] at he
        have hl7 := run_loadAt_row (P := Tryd.prog) (o := 0) (ty := 126) (cs := f1.enc) (w := w13) (b := b7) (cur := FE1) (t := 126) hX.pull3.heap Tryd.underlying126 rfl (by rw [Flw.enc_length]; kernel_rfl) (fun j u hu => by rw [← hF1]; simpa using hu)
        have hl13 := run_loadAt_row (P := Tryd.prog) (o := 0) (ty := 126) (cs := f1.enc) (w := w13) (b := b13) (cur := FE1) (t := 126) hX.heap Tryd.underlying126 rfl (by rw [Flw.enc_length]; kernel_rfl) (fun j u hu => by rw [← hF1]; simpa using hu)
        rw [hF1] at hl7 hl13
        go_wp2_with (first | (refine wpList_load_want (t := 126) rfl rfl rfl hl7 ?_) | (refine wpList_load_want (t := 126) rfl rfl rfl hl13 ?_) | (refine wpList_neq_want rfl rfl rfl rfl (by kernel_rfl) he ?_))
        try go_frame
        have hY := hX.drew
        refine wp_region_ord [(0, .pure), (1, .pure), (2, .pure), (3, .pure), (4, .pure), (5, .pure), (6, .quiet), (7, .pure), (8, .pure), (9, .pure), (10, .pure), (11, .quiet), (12, .pure), (13, .pure), (14, .pure), (15, .pure), (16, .quiet), (17, .pure), (18, .pure), (19, .pure), (20, .pure), (21, .quiet), (22, .acts), (23, .pure), (24, .pure), (25, .pure)] (by kernel_rfl) (by kernel_rfl)
          (fun w' => Below w.heap.size w w') hY.below ?_
        iterate 2 (refine ord_pure rfl rfl rfl (fun K' hK => ?_); go_big_quiet_op; refine hK _ ?_; clear hK K')
        iterate 1 (refine ord_skip' rfl rfl (fun K' hK => ?_); go_simp; refine hK _ ?_; clear hK K')
        iterate 2 (refine ord_pure rfl rfl rfl (fun K' hK => ?_); go_big_quiet_op; refine hK _ ?_; clear hK K')
        iterate 20 (refine ord_skip' rfl rfl (fun K' hK => ?_); go_simp; refine hK _ ?_; clear hK K')
        iterate 1 (refine ord_pure rfl rfl rfl (fun K' hK => ?_); go_big_quiet_op; refine hK _ ?_; clear hK K')
        refine ord_nil ?_
        go_wp2_with fail
        go_roundw
        case rel => exact ⟨k + 1, R', by omega, by omega, by go_num, (hY.drop.to (by ac_rfl : _ = blk b7 (.cells FE1 126) • fltab t 1 R' 1 • emp)).drop, G4⟩
        case measure => simp [intOf]; omega
      · have hsd : True := trivial
        go_wp2_with fail
        refine (HW.out _).mono ?_
        rintro e w5 ⟨rfl, hb5⟩
        have c5 := flGet_any (hS.below_ hb5) q0
        rw [G1.out, ← HQE.out] at c5
        clear hS hb5
        go_wp2_with fail
        refine c5.mono ?_
        rintro e w6 ⟨rfl, hS6⟩
        have hst := flw_storeN f1
        have hX := (hS6.alloc (.cells f1.enc.toArray 126)).pull2
        generalize hF1 : f1.enc.toArray = FE1 at *
        generalize hb7 : w6.heap.size = b7 at *
        generalize hW7 : w6.alloc (.cells FE1 126) = w7 at *
        have HB7 := Lib.hid (And.intro hb7 hW7)
        clear c5 hS6 hb7 hW7
        go_wp2_with (refine wpList_store_run (t := 126) rfl rfl rfl rfl (hst _ _ rfl) (stop_ ?_))
        unfold Stop
        try rw [HB7.out.2]
        try rw [HB7.out.1]
        clear hst HB7
        go_wp2_with fail
        try go_frame
        have hX8 := hX.drew
        clear hX
        refine wp_region_ord [(0, .pure), (2, .pure), (3, .pure), (4, .pure), (5, .pure), (6, .quiet), (7, .pure), (8, .pure), (9, .pure), (10, .pure), (11, .quiet), (12, .pure), (1, .acts), (13, .seals), (14, .pure)] (by kernel_rfl) (by kernel_rfl)
          (fun w' => Below w.heap.size w w') hX8.below ?_
        iterate 5 (refine ord_pure rfl rfl rfl (fun K' hK => ?_); go_big_quiet_op; refine hK _ ?_; clear hK K')
        refine ord_load (t := 3) rfl rfl rfl (p := .pointer (some ((a.add (k * 5)).add 2))) (v := .int .i64 sd) rfl (fun w' hC => load_one Tryd.underlying3 rfl (HROW.out _ hC).1) (fun K' hK => ?_)
        go_simp
        refine hK _ ?_
        clear hK K'
        iterate 4 (refine ord_pure rfl rfl rfl (fun K' hK => ?_); go_big_quiet_op; refine hK _ ?_; clear hK K')
        refine ord_load (t := 3) rfl rfl rfl (p := .pointer (some ((a.add (k * 5)).add 3))) (v := .int .i64 fl) rfl (fun w' hC => load_one Tryd.underlying3 rfl (HROW.out _ hC).2) (fun K' hK => ?_)
        go_simp
        refine hK _ ?_
        clear hK K'
        iterate 1 (refine ord_pure rfl rfl rfl (fun K' hK => ?_); go_big_quiet_op; refine hK _ ?_; clear hK K')
        refine ord_acts rfl rfl (fun K' hK => ?_)
        go_simp
        refine (HW.out _).mono ?_
        rintro e w9 ⟨rfl, hb9⟩
        have hX9 := hX8.below_ hb9
        refine hK _ _ (hX9.below) ?_
        clear hK K'
        go_simp
        have c10 := flSee_any hX9 G5.out q0 sd fl nn hnb.1 (by omega)
        rw [G2.out, ← HQE.out] at c10
        dsimp only at c10
        refine ord_seals rfl rfl (fun K' hK => ?_)
        go_simp
        refine (c10).mono ?_
        rintro e w10 ⟨rfl, hS10⟩
        refine hK (fun _ => True) _ _ trivial ?_
        clear hK K'
        go_simp
        iterate 1 (refine ord_pure rfl rfl rfl (fun K' hK => ?_); go_big_quiet_op; refine hK _ ?_; clear hK K')
        refine ord_nil ?_
        clear hX8
        go_wp2_with fail
        refine (HW.out _).mono ?_
        rintro e w11 ⟨rfl, hb11⟩
        have c11 := flGet_any (hS10.below_ hb11) q0
        rw [G3.out, ← HQE.out] at c11
        clear hS10 hb11
        go_wp2_with fail
        refine c11.mono ?_
        rintro e w12 ⟨rfl, hS12⟩
        have hst := flw_storeN f2
        have hX := hS12.alloc (.cells f2.enc.toArray 126)
        generalize hF2 : f2.enc.toArray = FE2 at *
        generalize hb13 : w12.heap.size = b13 at *
        generalize hW13 : w12.alloc (.cells FE2 126) = w13 at *
        have HB13 := Lib.hid (And.intro hb13 hW13)
        clear c11 hS12 hb13 hW13
        go_wp2_with (refine wpList_store_run (t := 126) rfl rfl rfl rfl (hst _ _ rfl) (stop_ ?_))
        unfold Stop
        try rw [HB13.out.2]
        try rw [HB13.out.1]
        clear hst HB13
        have hXb := hX.below
        obtain ⟨rs1, rs2⟩ := HROW.out _ hXb
        subst hff
        rw [hF1] at hF2
        subst hF2
        have he := HEQ.out w13
        rw [decide_eq_true rfl] at he
        have hl7 := run_loadAt_row (P := Tryd.prog) (o := 0) (ty := 126) (cs := f1.enc) (w := w13) (b := b7) (cur := FE1) (t := 126) hX.pull3.heap Tryd.underlying126 rfl (by rw [Flw.enc_length]; kernel_rfl) (fun j u hu => by rw [← hF1]; simpa using hu)
        have hl13 := run_loadAt_row (P := Tryd.prog) (o := 0) (ty := 126) (cs := f1.enc) (w := w13) (b := b13) (cur := FE1) (t := 126) hX.heap Tryd.underlying126 rfl (by rw [Flw.enc_length]; kernel_rfl) (fun j u hu => by rw [← hF1]; simpa using hu)
        rw [hF1] at hl7 hl13
        go_wp2_with (first | (refine wpList_load_want (t := 126) rfl rfl rfl hl7 ?_) | (refine wpList_load_want (t := 126) rfl rfl rfl hl13 ?_) | (refine wpList_neq_want rfl rfl rfl rfl (by kernel_rfl) he ?_))
        try go_frame
        have hY := hX.drew
        refine wp_region_ord [(0, .pure), (1, .pure), (2, .pure), (3, .pure), (4, .pure), (5, .pure), (6, .quiet), (7, .pure), (8, .pure), (9, .pure), (10, .pure), (11, .quiet), (12, .pure), (13, .pure), (14, .pure), (15, .pure), (16, .quiet), (17, .pure), (18, .pure), (19, .pure), (20, .pure), (21, .quiet), (22, .acts), (23, .pure), (24, .pure), (25, .pure)] (by kernel_rfl) (by kernel_rfl)
          (fun w' => Below w.heap.size w w') hY.below ?_
        iterate 2 (refine ord_pure rfl rfl rfl (fun K' hK => ?_); go_big_quiet_op; refine hK _ ?_; clear hK K')
        iterate 1 (refine ord_skip' rfl rfl (fun K' hK => ?_); go_simp; refine hK _ ?_; clear hK K')
        iterate 2 (refine ord_pure rfl rfl rfl (fun K' hK => ?_); go_big_quiet_op; refine hK _ ?_; clear hK K')
        iterate 20 (refine ord_skip' rfl rfl (fun K' hK => ?_); go_simp; refine hK _ ?_; clear hK K')
        iterate 1 (refine ord_pure rfl rfl rfl (fun K' hK => ?_); go_big_quiet_op; refine hK _ ?_; clear hK K')
        refine ord_nil ?_
        go_wp2_with fail
        go_roundw
        case rel => exact ⟨k + 1, R', by omega, by omega, by go_num, (hY.drop.to (by ac_rfl : _ = blk b7 (.cells FE1 126) • fltab t 1 R' 1 • emp)).drop, G4⟩
        case measure => simp [intOf]; omega
      · rcases hsd with rfl | rfl
        · have hsd : True := trivial
          go_wp2_with fail
          refine (HW.out _).mono ?_
          rintro e w5 ⟨rfl, hb5⟩
          have c5 := flGet_any (hS.below_ hb5) q0
          rw [G1.out, ← HQE.out] at c5
          clear hS hb5
          go_wp2_with fail
          refine c5.mono ?_
          rintro e w6 ⟨rfl, hS6⟩
          have hst := flw_storeN f1
          have hX := (hS6.alloc (.cells f1.enc.toArray 126)).pull2
          generalize hF1 : f1.enc.toArray = FE1 at *
          generalize hb7 : w6.heap.size = b7 at *
          generalize hW7 : w6.alloc (.cells FE1 126) = w7 at *
          have HB7 := Lib.hid (And.intro hb7 hW7)
          clear c5 hS6 hb7 hW7
          go_wp2_with (refine wpList_store_run (t := 126) rfl rfl rfl rfl (hst _ _ rfl) (stop_ ?_))
          unfold Stop
          try rw [HB7.out.2]
          try rw [HB7.out.1]
          clear hst HB7
          go_wp2_with fail
          try go_frame
          have hX8 := hX.drew
          clear hX
          refine wp_region_ord [(0, .pure), (2, .pure), (3, .pure), (4, .pure), (5, .pure), (6, .quiet), (7, .pure), (8, .pure), (9, .pure), (10, .pure), (11, .quiet), (12, .pure), (1, .acts), (13, .seals), (14, .pure)] (by kernel_rfl) (by kernel_rfl)
            (fun w' => Below w.heap.size w w') hX8.below ?_
          iterate 5 (refine ord_pure rfl rfl rfl (fun K' hK => ?_); go_big_quiet_op; refine hK _ ?_; clear hK K')
          refine ord_load (t := 3) rfl rfl rfl (p := .pointer (some ((a.add (k * 5)).add 2))) (v := .int .i64 0) rfl (fun w' hC => load_one Tryd.underlying3 rfl (HROW.out _ hC).1) (fun K' hK => ?_)
          go_simp
          refine hK _ ?_
          clear hK K'
          iterate 4 (refine ord_pure rfl rfl rfl (fun K' hK => ?_); go_big_quiet_op; refine hK _ ?_; clear hK K')
          refine ord_load (t := 3) rfl rfl rfl (p := .pointer (some ((a.add (k * 5)).add 3))) (v := .int .i64 fl) rfl (fun w' hC => load_one Tryd.underlying3 rfl (HROW.out _ hC).2) (fun K' hK => ?_)
          go_simp
          refine hK _ ?_
          clear hK K'
          iterate 1 (refine ord_pure rfl rfl rfl (fun K' hK => ?_); go_big_quiet_op; refine hK _ ?_; clear hK K')
          refine ord_acts rfl rfl (fun K' hK => ?_)
          go_simp
          refine (HW.out _).mono ?_
          rintro e w9 ⟨rfl, hb9⟩
          have hX9 := hX8.below_ hb9
          refine hK _ _ (hX9.below) ?_
          clear hK K'
          go_simp
          have c10 := flSee_any hX9 G5.out q0 0 fl nn hnb.1 (by omega)
          rw [G2.out, ← HQE.out] at c10
          dsimp only at c10
          refine ord_seals rfl rfl (fun K' hK => ?_)
          go_simp
          refine (c10).mono ?_
          rintro e w10 ⟨rfl, hS10⟩
          refine hK (fun _ => True) _ _ trivial ?_
          clear hK K'
          go_simp
          iterate 1 (refine ord_pure rfl rfl rfl (fun K' hK => ?_); go_big_quiet_op; refine hK _ ?_; clear hK K')
          refine ord_nil ?_
          clear hX8
          go_wp2_with fail
          refine (HW.out _).mono ?_
          rintro e w11 ⟨rfl, hb11⟩
          have c11 := flGet_any (hS10.below_ hb11) q0
          rw [G3.out, ← HQE.out] at c11
          clear hS10 hb11
          go_wp2_with fail
          refine c11.mono ?_
          rintro e w12 ⟨rfl, hS12⟩
          have hst := flw_storeN f2
          have hX := hS12.alloc (.cells f2.enc.toArray 126)
          generalize hF2 : f2.enc.toArray = FE2 at *
          generalize hb13 : w12.heap.size = b13 at *
          generalize hW13 : w12.alloc (.cells FE2 126) = w13 at *
          have HB13 := Lib.hid (And.intro hb13 hW13)
          clear c11 hS12 hb13 hW13
          go_wp2_with (refine wpList_store_run (t := 126) rfl rfl rfl rfl (hst _ _ rfl) (stop_ ?_))
          unfold Stop
          try rw [HB13.out.2]
          try rw [HB13.out.1]
          clear hst HB13
          have hXb := hX.below
          obtain ⟨rs1, rs2⟩ := HROW.out _ hXb
          go_upto_region 11 with (fail)
          refine wp_region_seq [(0, .pure), (1, .pure), (2, .pure), (3, .pure), (4, .pure), (5, .pure), (6, .pure), (7, .pure), (8, .pure), (9, .pure), (10, .pure), (11, .pure), (12, .quiet), (13, .quiet), (14, .pure), (15, .pure), (16, .pure), (17, .pure), (18, .pure), (19, .pure), (20, .pure), (21, .pure), (22, .pure), (23, .pure), (24, .pure), (25, .pure), (26, .pure), (27, .pure), (28, .pure), (29, .quiet), (30, .pure), (31, .pure), (32, .pure), (33, .pure), (34, .pure), (35, .pure), (36, .pure), (37, .quiet), (38, .pure), (39, .pure), (40, .pure)] (by kernel_rfl)
            (fun w' => Below w.heap.size w w') hXb ?_
          iterate 3 (refine ord_pure rfl rfl rfl (fun K' hK => ?_); go_big_quiet_op; refine hK _ ?_; clear hK K')
          iterate 4 (refine ord_skip' rfl rfl (fun K' hK => ?_); go_simp; refine hK _ ?_; clear hK K')
          iterate 5 (refine ord_pure rfl rfl rfl (fun K' hK => ?_); go_big_quiet_op; refine hK _ ?_; clear hK K')
          iterate 8 (refine ord_skip' rfl rfl (fun K' hK => ?_); go_simp; refine hK _ ?_; clear hK K')
          iterate 9 (refine ord_pure rfl rfl rfl (fun K' hK => ?_); go_big_quiet_op; refine hK _ ?_; clear hK K')
          refine ord_load (t := 3) rfl rfl rfl (p := .pointer (some ((a.add (k * 5)).add 2))) (v := .int .i64 0) rfl (fun w' hC => load_one Tryd.underlying3 rfl (HROW.out _ hC).1) (fun K' hK => ?_)
          go_simp
          refine hK _ ?_
          clear hK K'
          iterate 3 (refine ord_pure rfl rfl rfl (fun K' hK => ?_); go_big_quiet_op; refine hK _ ?_; clear hK K')
          iterate 6 (refine ord_skip' rfl rfl (fun K' hK => ?_); go_simp; refine hK _ ?_; clear hK K')
          iterate 2 (refine ord_pure rfl rfl rfl (fun K' hK => ?_); go_big_quiet_op; refine hK _ ?_; clear hK K')
          refine ord_nil ?_
          go_wp2_with fail
          try go_frame
          have hY := hX.drew
          refine wp_region_ord [(0, .pure), (1, .pure), (2, .pure), (3, .pure), (4, .pure), (5, .pure), (6, .quiet), (7, .pure), (8, .pure), (9, .pure), (10, .pure), (11, .quiet), (12, .pure), (13, .pure), (14, .pure), (15, .pure), (16, .quiet), (17, .pure), (18, .pure), (19, .pure), (20, .pure), (21, .quiet), (22, .acts), (23, .pure), (24, .pure), (25, .pure)] (by kernel_rfl) (by kernel_rfl)
            (fun w' => Below w.heap.size w w') hY.below ?_
          iterate 5 (refine ord_pure rfl rfl rfl (fun K' hK => ?_); go_big_quiet_op; refine hK _ ?_; clear hK K')
          iterate 20 (refine ord_skip' rfl rfl (fun K' hK => ?_); go_simp; refine hK _ ?_; clear hK K')
          iterate 1 (refine ord_pure rfl rfl rfl (fun K' hK => ?_); go_big_quiet_op; refine hK _ ?_; clear hK K')
          refine ord_nil ?_
          go_wp2_with fail
          go_roundw
          case rel => exact ⟨k + 1, R', by omega, by omega, by go_num, (hY.drop.to (by ac_rfl : _ = blk b7 (.cells FE1 126) • fltab t 1 R' 1 • emp)).drop, G4⟩
          case measure => simp [intOf]; omega
        · have hsd : True := trivial
          go_wp2_with fail
          refine (HW.out _).mono ?_
          rintro e w5 ⟨rfl, hb5⟩
          have c5 := flGet_any (hS.below_ hb5) q0
          rw [G1.out, ← HQE.out] at c5
          clear hS hb5
          go_wp2_with fail
          refine c5.mono ?_
          rintro e w6 ⟨rfl, hS6⟩
          have hst := flw_storeN f1
          have hX := (hS6.alloc (.cells f1.enc.toArray 126)).pull2
          generalize hF1 : f1.enc.toArray = FE1 at *
          generalize hb7 : w6.heap.size = b7 at *
          generalize hW7 : w6.alloc (.cells FE1 126) = w7 at *
          have HB7 := Lib.hid (And.intro hb7 hW7)
          clear c5 hS6 hb7 hW7
          go_wp2_with (refine wpList_store_run (t := 126) rfl rfl rfl rfl (hst _ _ rfl) (stop_ ?_))
          unfold Stop
          try rw [HB7.out.2]
          try rw [HB7.out.1]
          clear hst HB7
          go_wp2_with fail
          try go_frame
          have hX8 := hX.drew
          clear hX
          refine wp_region_ord [(0, .pure), (2, .pure), (3, .pure), (4, .pure), (5, .pure), (6, .quiet), (7, .pure), (8, .pure), (9, .pure), (10, .pure), (11, .quiet), (12, .pure), (1, .acts), (13, .seals), (14, .pure)] (by kernel_rfl) (by kernel_rfl)
            (fun w' => Below w.heap.size w w') hX8.below ?_
          iterate 5 (refine ord_pure rfl rfl rfl (fun K' hK => ?_); go_big_quiet_op; refine hK _ ?_; clear hK K')
          refine ord_load (t := 3) rfl rfl rfl (p := .pointer (some ((a.add (k * 5)).add 2))) (v := .int .i64 1) rfl (fun w' hC => load_one Tryd.underlying3 rfl (HROW.out _ hC).1) (fun K' hK => ?_)
          go_simp
          refine hK _ ?_
          clear hK K'
          iterate 4 (refine ord_pure rfl rfl rfl (fun K' hK => ?_); go_big_quiet_op; refine hK _ ?_; clear hK K')
          refine ord_load (t := 3) rfl rfl rfl (p := .pointer (some ((a.add (k * 5)).add 3))) (v := .int .i64 fl) rfl (fun w' hC => load_one Tryd.underlying3 rfl (HROW.out _ hC).2) (fun K' hK => ?_)
          go_simp
          refine hK _ ?_
          clear hK K'
          iterate 1 (refine ord_pure rfl rfl rfl (fun K' hK => ?_); go_big_quiet_op; refine hK _ ?_; clear hK K')
          refine ord_acts rfl rfl (fun K' hK => ?_)
          go_simp
          refine (HW.out _).mono ?_
          rintro e w9 ⟨rfl, hb9⟩
          have hX9 := hX8.below_ hb9
          refine hK _ _ (hX9.below) ?_
          clear hK K'
          go_simp
          have c10 := flSee_any hX9 G5.out q0 1 fl nn hnb.1 (by omega)
          rw [G2.out, ← HQE.out] at c10
          dsimp only at c10
          refine ord_seals rfl rfl (fun K' hK => ?_)
          go_simp
          refine (c10).mono ?_
          rintro e w10 ⟨rfl, hS10⟩
          refine hK (fun _ => True) _ _ trivial ?_
          clear hK K'
          go_simp
          iterate 1 (refine ord_pure rfl rfl rfl (fun K' hK => ?_); go_big_quiet_op; refine hK _ ?_; clear hK K')
          refine ord_nil ?_
          clear hX8
          go_wp2_with fail
          refine (HW.out _).mono ?_
          rintro e w11 ⟨rfl, hb11⟩
          have c11 := flGet_any (hS10.below_ hb11) q0
          rw [G3.out, ← HQE.out] at c11
          clear hS10 hb11
          go_wp2_with fail
          refine c11.mono ?_
          rintro e w12 ⟨rfl, hS12⟩
          have hst := flw_storeN f2
          have hX := hS12.alloc (.cells f2.enc.toArray 126)
          generalize hF2 : f2.enc.toArray = FE2 at *
          generalize hb13 : w12.heap.size = b13 at *
          generalize hW13 : w12.alloc (.cells FE2 126) = w13 at *
          have HB13 := Lib.hid (And.intro hb13 hW13)
          clear c11 hS12 hb13 hW13
          go_wp2_with (refine wpList_store_run (t := 126) rfl rfl rfl rfl (hst _ _ rfl) (stop_ ?_))
          unfold Stop
          try rw [HB13.out.2]
          try rw [HB13.out.1]
          clear hst HB13
          have hXb := hX.below
          obtain ⟨rs1, rs2⟩ := HROW.out _ hXb
          go_upto_region 11 with (fail)
          refine wp_region_seq [(0, .pure), (1, .pure), (2, .pure), (3, .pure), (4, .pure), (5, .pure), (6, .pure), (7, .pure), (8, .pure), (9, .pure), (10, .pure), (11, .pure), (12, .quiet), (13, .quiet), (14, .pure), (15, .pure), (16, .pure), (17, .pure), (18, .pure), (19, .pure), (20, .pure), (21, .pure), (22, .pure), (23, .pure), (24, .pure), (25, .pure), (26, .pure), (27, .pure), (28, .pure), (29, .quiet), (30, .pure), (31, .pure), (32, .pure), (33, .pure), (34, .pure), (35, .pure), (36, .pure), (37, .quiet), (38, .pure), (39, .pure), (40, .pure)] (by kernel_rfl)
            (fun w' => Below w.heap.size w w') hXb ?_
          iterate 3 (refine ord_pure rfl rfl rfl (fun K' hK => ?_); go_big_quiet_op; refine hK _ ?_; clear hK K')
          iterate 4 (refine ord_skip' rfl rfl (fun K' hK => ?_); go_simp; refine hK _ ?_; clear hK K')
          iterate 5 (refine ord_pure rfl rfl rfl (fun K' hK => ?_); go_big_quiet_op; refine hK _ ?_; clear hK K')
          iterate 8 (refine ord_skip' rfl rfl (fun K' hK => ?_); go_simp; refine hK _ ?_; clear hK K')
          iterate 9 (refine ord_pure rfl rfl rfl (fun K' hK => ?_); go_big_quiet_op; refine hK _ ?_; clear hK K')
          refine ord_load (t := 3) rfl rfl rfl (p := .pointer (some ((a.add (k * 5)).add 2))) (v := .int .i64 1) rfl (fun w' hC => load_one Tryd.underlying3 rfl (HROW.out _ hC).1) (fun K' hK => ?_)
          go_simp
          refine hK _ ?_
          clear hK K'
          iterate 7 (refine ord_pure rfl rfl rfl (fun K' hK => ?_); go_big_quiet_op; refine hK _ ?_; clear hK K')
          refine ord_load (t := 3) rfl rfl rfl (p := .pointer (some ((a.add (k * 5)).add 2))) (v := .int .i64 1) rfl (fun w' hC => load_one Tryd.underlying3 rfl (HROW.out _ hC).1) (fun K' hK => ?_)
          go_simp
          refine hK _ ?_
          clear hK K'
          iterate 3 (refine ord_pure rfl rfl rfl (fun K' hK => ?_); go_big_quiet_op; refine hK _ ?_; clear hK K')
          refine ord_nil ?_
          go_wp2_with fail
          try go_frame
          have hY := hX.drew
          refine wp_region_ord [(0, .pure), (1, .pure), (2, .pure), (3, .pure), (4, .pure), (5, .pure), (6, .quiet), (7, .pure), (8, .pure), (9, .pure), (10, .pure), (11, .quiet), (12, .pure), (13, .pure), (14, .pure), (15, .pure), (16, .quiet), (17, .pure), (18, .pure), (19, .pure), (20, .pure), (21, .quiet), (22, .acts), (23, .pure), (24, .pure), (25, .pure)] (by kernel_rfl) (by kernel_rfl)
            (fun w' => Below w.heap.size w w') hY.below ?_
          iterate 5 (refine ord_pure rfl rfl rfl (fun K' hK => ?_); go_big_quiet_op; refine hK _ ?_; clear hK K')
          iterate 20 (refine ord_skip' rfl rfl (fun K' hK => ?_); go_simp; refine hK _ ?_; clear hK K')
          iterate 1 (refine ord_pure rfl rfl rfl (fun K' hK => ?_); go_big_quiet_op; refine hK _ ?_; clear hK K')
          refine ord_nil ?_
          go_wp2_with fail
          go_roundw
          case rel => exact ⟨k + 1, R', by omega, by omega, by go_num, (hY.drop.to (by ac_rfl : _ = blk b7 (.cells FE1 126) • fltab t 1 R' 1 • emp)).drop, G4⟩
          case measure => simp [intOf]; omega
      · rcases hsd with rfl | rfl
        · have hsd : True := trivial
          go_wp2_with fail
          refine (HW.out _).mono ?_
          rintro e w5 ⟨rfl, hb5⟩
          have c5 := flGet_any (hS.below_ hb5) q0
          rw [G1.out, ← HQE.out] at c5
          clear hS hb5
          go_wp2_with fail
          refine c5.mono ?_
          rintro e w6 ⟨rfl, hS6⟩
          have hst := flw_storeN f1
          have hX := (hS6.alloc (.cells f1.enc.toArray 126)).pull2
          generalize hF1 : f1.enc.toArray = FE1 at *
          generalize hb7 : w6.heap.size = b7 at *
          generalize hW7 : w6.alloc (.cells FE1 126) = w7 at *
          have HB7 := Lib.hid (And.intro hb7 hW7)
          clear c5 hS6 hb7 hW7
          go_wp2_with (refine wpList_store_run (t := 126) rfl rfl rfl rfl (hst _ _ rfl) (stop_ ?_))
          unfold Stop
          try rw [HB7.out.2]
          try rw [HB7.out.1]
          clear hst HB7
          go_wp2_with fail
          try go_frame
          have hX8 := hX.drew
          clear hX
          refine wp_region_ord [(0, .pure), (2, .pure), (3, .pure), (4, .pure), (5, .pure), (6, .quiet), (7, .pure), (8, .pure), (9, .pure), (10, .pure), (11, .quiet), (12, .pure), (1, .acts), (13, .seals), (14, .pure)] (by kernel_rfl) (by kernel_rfl)
            (fun w' => Below w.heap.size w w') hX8.below ?_
          iterate 5 (refine ord_pure rfl rfl rfl (fun K' hK => ?_); go_big_quiet_op; refine hK _ ?_; clear hK K')
          refine ord_load (t := 3) rfl rfl rfl (p := .pointer (some ((a.add (k * 5)).add 2))) (v := .int .i64 0) rfl (fun w' hC => load_one Tryd.underlying3 rfl (HROW.out _ hC).1) (fun K' hK => ?_)
          go_simp
          refine hK _ ?_
          clear hK K'
          iterate 4 (refine ord_pure rfl rfl rfl (fun K' hK => ?_); go_big_quiet_op; refine hK _ ?_; clear hK K')
          refine ord_load (t := 3) rfl rfl rfl (p := .pointer (some ((a.add (k * 5)).add 3))) (v := .int .i64 fl) rfl (fun w' hC => load_one Tryd.underlying3 rfl (HROW.out _ hC).2) (fun K' hK => ?_)
          go_simp
          refine hK _ ?_
          clear hK K'
          iterate 1 (refine ord_pure rfl rfl rfl (fun K' hK => ?_); go_big_quiet_op; refine hK _ ?_; clear hK K')
          refine ord_acts rfl rfl (fun K' hK => ?_)
          go_simp
          refine (HW.out _).mono ?_
          rintro e w9 ⟨rfl, hb9⟩
          have hX9 := hX8.below_ hb9
          refine hK _ _ (hX9.below) ?_
          clear hK K'
          go_simp
          have c10 := flSee_any hX9 G5.out q0 0 fl nn hnb.1 (by omega)
          rw [G2.out, ← HQE.out] at c10
          dsimp only at c10
          refine ord_seals rfl rfl (fun K' hK => ?_)
          go_simp
          refine (c10).mono ?_
          rintro e w10 ⟨rfl, hS10⟩
          refine hK (fun _ => True) _ _ trivial ?_
          clear hK K'
          go_simp
          iterate 1 (refine ord_pure rfl rfl rfl (fun K' hK => ?_); go_big_quiet_op; refine hK _ ?_; clear hK K')
          refine ord_nil ?_
          clear hX8
          go_wp2_with fail
          refine (HW.out _).mono ?_
          rintro e w11 ⟨rfl, hb11⟩
          have c11 := flGet_any (hS10.below_ hb11) q0
          rw [G3.out, ← HQE.out] at c11
          clear hS10 hb11
          go_wp2_with fail
          refine c11.mono ?_
          rintro e w12 ⟨rfl, hS12⟩
          have hst := flw_storeN f2
          have hX := hS12.alloc (.cells f2.enc.toArray 126)
          generalize hF2 : f2.enc.toArray = FE2 at *
          generalize hb13 : w12.heap.size = b13 at *
          generalize hW13 : w12.alloc (.cells FE2 126) = w13 at *
          have HB13 := Lib.hid (And.intro hb13 hW13)
          clear c11 hS12 hb13 hW13
          go_wp2_with (refine wpList_store_run (t := 126) rfl rfl rfl rfl (hst _ _ rfl) (stop_ ?_))
          unfold Stop
          try rw [HB13.out.2]
          try rw [HB13.out.1]
          clear hst HB13
          have hXb := hX.below
          obtain ⟨rs1, rs2⟩ := HROW.out _ hXb
          go_upto_region 11 with (fail)
          refine wp_region_seq [(0, .pure), (1, .pure), (2, .pure), (3, .pure), (4, .pure), (5, .pure), (6, .pure), (7, .pure), (8, .pure), (9, .pure), (10, .pure), (11, .pure), (12, .quiet), (13, .quiet), (14, .pure), (15, .pure), (16, .pure), (17, .pure), (18, .pure), (19, .pure), (20, .pure), (21, .pure), (22, .pure), (23, .pure), (24, .pure), (25, .pure), (26, .pure), (27, .pure), (28, .pure), (29, .quiet), (30, .pure), (31, .pure), (32, .pure), (33, .pure), (34, .pure), (35, .pure), (36, .pure), (37, .quiet), (38, .pure), (39, .pure), (40, .pure)] (by kernel_rfl)
            (fun w' => Below w.heap.size w w') hXb ?_
          iterate 3 (refine ord_pure rfl rfl rfl (fun K' hK => ?_); go_big_quiet_op; refine hK _ ?_; clear hK K')
          iterate 4 (refine ord_skip' rfl rfl (fun K' hK => ?_); go_simp; refine hK _ ?_; clear hK K')
          iterate 5 (refine ord_pure rfl rfl rfl (fun K' hK => ?_); go_big_quiet_op; refine hK _ ?_; clear hK K')
          iterate 8 (refine ord_skip' rfl rfl (fun K' hK => ?_); go_simp; refine hK _ ?_; clear hK K')
          iterate 9 (refine ord_pure rfl rfl rfl (fun K' hK => ?_); go_big_quiet_op; refine hK _ ?_; clear hK K')
          refine ord_load (t := 3) rfl rfl rfl (p := .pointer (some ((a.add (k * 5)).add 2))) (v := .int .i64 0) rfl (fun w' hC => load_one Tryd.underlying3 rfl (HROW.out _ hC).1) (fun K' hK => ?_)
          go_simp
          refine hK _ ?_
          clear hK K'
          iterate 3 (refine ord_pure rfl rfl rfl (fun K' hK => ?_); go_big_quiet_op; refine hK _ ?_; clear hK K')
          iterate 6 (refine ord_skip' rfl rfl (fun K' hK => ?_); go_simp; refine hK _ ?_; clear hK K')
          iterate 2 (refine ord_pure rfl rfl rfl (fun K' hK => ?_); go_big_quiet_op; refine hK _ ?_; clear hK K')
          refine ord_nil ?_
          go_wp2_with fail
          try go_frame
          have hY := hX.drew
          have hcl : ∀ W, W.heap[b13]? = some (.cells FE2 126) → W.cell? ⟨b13, 39, none⟩ = some (.int .u64 f2.due) ∧ W.cell? ⟨b13, 37, none⟩ = some (.int .i64 f2.st) ∧ (Instr.loadAt 121 (.pointer (some ⟨b13, 0, none⟩))).run Tryd.prog W = .ok (.agg f2.tup.enc.toArray) W := by
            intro W hW
            rw [← hF2] at hW
            obtain ⟨c37, _, c39⟩ := flw_cells hW
            refine ⟨c39, c37, run_loadAt_row hW Tryd.underlying121 rfl (by rw [Tup.enc_length]; kernel_rfl) (fun j u hu => ?_)⟩
            have hj : j < 37 := by have := (List.getElem?_eq_some_iff.1 hu).1; rwa [Tup.enc_length] at this
            rw [List.getElem?_toArray, Nat.zero_add, f2.at0 j hj]
            exact hu
          have HCL := Lib.hid hcl
          have HTE := Lib.hid (by have := HET.out f2.tup; rw [htq, decide_eq_true rfl] at this; exact this : ∀ w : World, EqV Tryd.prog w 10000 121 (.agg q0.enc.toArray) (.agg q0.enc.toArray) true)
          rw [htq, ← HQE.out] at HCL
          rw [← HQE.out] at HTE
          have t1 : decide (f2.due ≤ nn) = false := decide_eq_false (by omega)
          have t2 : decide (f2.st < 1) = false := decide_eq_false (by omega)
          have t3 : decide (f2.st > 5) = false := decide_eq_false (by omega)
          have t3' : decide (5 < f2.st) = false := decide_eq_false (by omega)
          clear hcl hdu hs1 hs5 hsd
          generalize f2.due = du at *
          generalize f2.st = sv at *
          refine wp_region_ord [(0, .pure), (1, .pure), (2, .pure), (3, .pure), (4, .pure), (5, .pure), (6, .quiet), (7, .pure), (8, .pure), (9, .pure), (10, .pure), (11, .quiet), (12, .pure), (13, .pure), (14, .pure), (15, .pure), (16, .quiet), (17, .pure), (18, .pure), (19, .pure), (20, .pure), (21, .quiet), (22, .acts), (23, .pure), (24, .pure), (25, .pure)] (by kernel_rfl) (by kernel_rfl)
            (fun w' => w'.heap[b13]? = some (.cells FE2 126)) hY.heap ?_
          iterate 6 (refine ord_pure rfl rfl rfl (fun K' hK => ?_); go_big_quiet_op; refine hK _ ?_; clear hK K')
          refine ord_load (t := 23) rfl rfl rfl (p := .pointer (some ⟨b13, 39, none⟩)) (v := .int .u64 du) rfl (fun w' hC => load_one Tryd.underlying23 rfl (HCL.out _ hC).1) (fun K' hK => ?_)
          go_simp
          refine hK _ ?_
          clear hK K'
          iterate 4 (refine ord_pure rfl rfl rfl (fun K' hK => ?_); go_big_quiet_op; refine hK _ ?_; clear hK K')
          refine ord_load (t := 3) rfl rfl rfl (p := .pointer (some ⟨b13, 37, none⟩)) (v := .int .i64 sv) rfl (fun w' hC => load_one Tryd.underlying3 rfl (HCL.out _ hC).2.1) (fun K' hK => ?_)
          go_simp
          refine hK _ ?_
          clear hK K'
          iterate 4 (refine ord_pure rfl rfl rfl (fun K' hK => ?_); go_big_quiet_op; refine hK _ ?_; clear hK K')
          refine ord_load (t := 3) rfl rfl rfl (p := .pointer (some ⟨b13, 37, none⟩)) (v := .int .i64 sv) rfl (fun w' hC => load_one Tryd.underlying3 rfl (HCL.out _ hC).2.1) (fun K' hK => ?_)
          go_simp
          refine hK _ ?_
          clear hK K'
          iterate 4 (refine ord_pure rfl rfl rfl (fun K' hK => ?_); go_big_quiet_op; refine hK _ ?_; clear hK K')
          refine ord_load (t := 121) rfl rfl rfl (p := .pointer (some ⟨b13, 0, none⟩)) (v := .agg QE) rfl (fun w' hC => (HCL.out _ hC).2.2) (fun K' hK => ?_)
          go_simp
          refine hK _ ?_
          clear hK K'
          refine ord_acts rfl rfl (fun K' hK => ?_)
          go_simp
          refine (HW.out _).mono ?_
          rintro e w14 ⟨rfl, hb14⟩
          have hY2 := hY.below_ hb14
          refine hK _ _ (hY2.heap) ?_
          clear hK K'
          go_simp
          refine ord_neq_agg rfl rfl rfl rfl rfl (by kernel_rfl) (fun w' => HTE.out w') (fun K' hK => ?_)
          go_simp
          refine hK _ ?_
          clear hK K'
          iterate 2 (refine ord_pure rfl rfl rfl (fun K' hK => ?_); go_big_quiet_op; refine hK _ ?_; clear hK K')
          refine ord_nil ?_
          go_wp2_with fail
          go_roundw
          case rel => exact ⟨k + 1, R', by omega, by omega, by go_num, (hY2.drop.to (by ac_rfl : _ = blk b7 (.cells FE1 126) • fltab t 1 R' 1 • emp)).drop, G4⟩
          case measure => simp [intOf]; omega
        · have hsd : True := trivial
          go_wp2_with fail
          refine (HW.out _).mono ?_
          rintro e w5 ⟨rfl, hb5⟩
          have c5 := flGet_any (hS.below_ hb5) q0
          rw [G1.out, ← HQE.out] at c5
          clear hS hb5
          go_wp2_with fail
          refine c5.mono ?_
          rintro e w6 ⟨rfl, hS6⟩
          have hst := flw_storeN f1
          have hX := (hS6.alloc (.cells f1.enc.toArray 126)).pull2
          generalize hF1 : f1.enc.toArray = FE1 at *
          generalize hb7 : w6.heap.size = b7 at *
          generalize hW7 : w6.alloc (.cells FE1 126) = w7 at *
          have HB7 := Lib.hid (And.intro hb7 hW7)
          clear c5 hS6 hb7 hW7
          go_wp2_with (refine wpList_store_run (t := 126) rfl rfl rfl rfl (hst _ _ rfl) (stop_ ?_))
          unfold Stop
          try rw [HB7.out.2]
          try rw [HB7.out.1]
          clear hst HB7
          go_wp2_with fail
          try go_frame
          have hX8 := hX.drew
          clear hX
          refine wp_region_ord [(0, .pure), (2, .pure), (3, .pure), (4, .pure), (5, .pure), (6, .quiet), (7, .pure), (8, .pure), (9, .pure), (10, .pure), (11, .quiet), (12, .pure), (1, .acts), (13, .seals), (14, .pure)] (by kernel_rfl) (by kernel_rfl)
            (fun w' => Below w.heap.size w w') hX8.below ?_
          iterate 5 (refine ord_pure rfl rfl rfl (fun K' hK => ?_); go_big_quiet_op; refine hK _ ?_; clear hK K')
          refine ord_load (t := 3) rfl rfl rfl (p := .pointer (some ((a.add (k * 5)).add 2))) (v := .int .i64 1) rfl (fun w' hC => load_one Tryd.underlying3 rfl (HROW.out _ hC).1) (fun K' hK => ?_)
          go_simp
          refine hK _ ?_
          clear hK K'
          iterate 4 (refine ord_pure rfl rfl rfl (fun K' hK => ?_); go_big_quiet_op; refine hK _ ?_; clear hK K')
          refine ord_load (t := 3) rfl rfl rfl (p := .pointer (some ((a.add (k * 5)).add 3))) (v := .int .i64 fl) rfl (fun w' hC => load_one Tryd.underlying3 rfl (HROW.out _ hC).2) (fun K' hK => ?_)
          go_simp
          refine hK _ ?_
          clear hK K'
          iterate 1 (refine ord_pure rfl rfl rfl (fun K' hK => ?_); go_big_quiet_op; refine hK _ ?_; clear hK K')
          refine ord_acts rfl rfl (fun K' hK => ?_)
          go_simp
          refine (HW.out _).mono ?_
          rintro e w9 ⟨rfl, hb9⟩
          have hX9 := hX8.below_ hb9
          refine hK _ _ (hX9.below) ?_
          clear hK K'
          go_simp
          have c10 := flSee_any hX9 G5.out q0 1 fl nn hnb.1 (by omega)
          rw [G2.out, ← HQE.out] at c10
          dsimp only at c10
          refine ord_seals rfl rfl (fun K' hK => ?_)
          go_simp
          refine (c10).mono ?_
          rintro e w10 ⟨rfl, hS10⟩
          refine hK (fun _ => True) _ _ trivial ?_
          clear hK K'
          go_simp
          iterate 1 (refine ord_pure rfl rfl rfl (fun K' hK => ?_); go_big_quiet_op; refine hK _ ?_; clear hK K')
          refine ord_nil ?_
          clear hX8
          go_wp2_with fail
          refine (HW.out _).mono ?_
          rintro e w11 ⟨rfl, hb11⟩
          have c11 := flGet_any (hS10.below_ hb11) q0
          rw [G3.out, ← HQE.out] at c11
          clear hS10 hb11
          go_wp2_with fail
          refine c11.mono ?_
          rintro e w12 ⟨rfl, hS12⟩
          have hst := flw_storeN f2
          have hX := hS12.alloc (.cells f2.enc.toArray 126)
          generalize hF2 : f2.enc.toArray = FE2 at *
          generalize hb13 : w12.heap.size = b13 at *
          generalize hW13 : w12.alloc (.cells FE2 126) = w13 at *
          have HB13 := Lib.hid (And.intro hb13 hW13)
          clear c11 hS12 hb13 hW13
          go_wp2_with (refine wpList_store_run (t := 126) rfl rfl rfl rfl (hst _ _ rfl) (stop_ ?_))
          unfold Stop
          try rw [HB13.out.2]
          try rw [HB13.out.1]
          clear hst HB13
          have hXb := hX.below
          obtain ⟨rs1, rs2⟩ := HROW.out _ hXb
          go_upto_region 11 with (fail)
          refine wp_region_seq [(0, .pure), (1, .pure), (2, .pure), (3, .pure), (4, .pure), (5, .pure), (6, .pure), (7, .pure), (8, .pure), (9, .pure), (10, .pure), (11, .pure), (12, .quiet), (13, .quiet), (14, .pure), (15, .pure), (16, .pure), (17, .pure), (18, .pure), (19, .pure), (20, .pure), (21, .pure), (22, .pure), (23, .pure), (24, .pure), (25, .pure), (26, .pure), (27, .pure), (28, .pure), (29, .quiet), (30, .pure), (31, .pure), (32, .pure), (33, .pure), (34, .pure), (35, .pure), (36, .pure), (37, .quiet), (38, .pure), (39, .pure), (40, .pure)] (by kernel_rfl)
            (fun w' => Below w.heap.size w w') hXb ?_
          iterate 3 (refine ord_pure rfl rfl rfl (fun K' hK => ?_); go_big_quiet_op; refine hK _ ?_; clear hK K')
          iterate 4 (refine ord_skip' rfl rfl (fun K' hK => ?_); go_simp; refine hK _ ?_; clear hK K')
          iterate 5 (refine ord_pure rfl rfl rfl (fun K' hK => ?_); go_big_quiet_op; refine hK _ ?_; clear hK K')
          iterate 8 (refine ord_skip' rfl rfl (fun K' hK => ?_); go_simp; refine hK _ ?_; clear hK K')
          iterate 9 (refine ord_pure rfl rfl rfl (fun K' hK => ?_); go_big_quiet_op; refine hK _ ?_; clear hK K')
          refine ord_load (t := 3) rfl rfl rfl (p := .pointer (some ((a.add (k * 5)).add 2))) (v := .int .i64 1) rfl (fun w' hC => load_one Tryd.underlying3 rfl (HROW.out _ hC).1) (fun K' hK => ?_)
          go_simp
          refine hK _ ?_
          clear hK K'
          iterate 7 (refine ord_pure rfl rfl rfl (fun K' hK => ?_); go_big_quiet_op; refine hK _ ?_; clear hK K')
          refine ord_load (t := 3) rfl rfl rfl (p := .pointer (some ((a.add (k * 5)).add 2))) (v := .int .i64 1) rfl (fun w' hC => load_one Tryd.underlying3 rfl (HROW.out _ hC).1) (fun K' hK => ?_)
          go_simp
          refine hK _ ?_
          clear hK K'
          iterate 3 (refine ord_pure rfl rfl rfl (fun K' hK => ?_); go_big_quiet_op; refine hK _ ?_; clear hK K')
          refine ord_nil ?_
          go_wp2_with fail
          try go_frame
          have hY := hX.drew
          have hcl : ∀ W, W.heap[b13]? = some (.cells FE2 126) → W.cell? ⟨b13, 39, none⟩ = some (.int .u64 f2.due) ∧ W.cell? ⟨b13, 37, none⟩ = some (.int .i64 f2.st) ∧ (Instr.loadAt 121 (.pointer (some ⟨b13, 0, none⟩))).run Tryd.prog W = .ok (.agg f2.tup.enc.toArray) W := by
            intro W hW
            rw [← hF2] at hW
            obtain ⟨c37, _, c39⟩ := flw_cells hW
            refine ⟨c39, c37, run_loadAt_row hW Tryd.underlying121 rfl (by rw [Tup.enc_length]; kernel_rfl) (fun j u hu => ?_)⟩
            have hj : j < 37 := by have := (List.getElem?_eq_some_iff.1 hu).1; rwa [Tup.enc_length] at this
            rw [List.getElem?_toArray, Nat.zero_add, f2.at0 j hj]
            exact hu
          have HCL := Lib.hid hcl
          have HTE := Lib.hid (by have := HET.out f2.tup; rw [htq, decide_eq_true rfl] at this; exact this : ∀ w : World, EqV Tryd.prog w 10000 121 (.agg q0.enc.toArray) (.agg q0.enc.toArray) true)
          rw [htq, ← HQE.out] at HCL
          rw [← HQE.out] at HTE
          have t1 : decide (f2.due ≤ nn) = false := decide_eq_false (by omega)
          have t2 : decide (f2.st < 1) = false := decide_eq_false (by omega)
          have t3 : decide (f2.st > 5) = false := decide_eq_false (by omega)
          have t3' : decide (5 < f2.st) = false := decide_eq_false (by omega)
          clear hcl hdu hs1 hs5 hsd
          generalize f2.due = du at *
          generalize f2.st = sv at *
          refine wp_region_ord [(0, .pure), (1, .pure), (2, .pure), (3, .pure), (4, .pure), (5, .pure), (6, .quiet), (7, .pure), (8, .pure), (9, .pure), (10, .pure), (11, .quiet), (12, .pure), (13, .pure), (14, .pure), (15, .pure), (16, .quiet), (17, .pure), (18, .pure), (19, .pure), (20, .pure), (21, .quiet), (22, .acts), (23, .pure), (24, .pure), (25, .pure)] (by kernel_rfl) (by kernel_rfl)
            (fun w' => w'.heap[b13]? = some (.cells FE2 126)) hY.heap ?_
          iterate 6 (refine ord_pure rfl rfl rfl (fun K' hK => ?_); go_big_quiet_op; refine hK _ ?_; clear hK K')
          refine ord_load (t := 23) rfl rfl rfl (p := .pointer (some ⟨b13, 39, none⟩)) (v := .int .u64 du) rfl (fun w' hC => load_one Tryd.underlying23 rfl (HCL.out _ hC).1) (fun K' hK => ?_)
          go_simp
          refine hK _ ?_
          clear hK K'
          iterate 4 (refine ord_pure rfl rfl rfl (fun K' hK => ?_); go_big_quiet_op; refine hK _ ?_; clear hK K')
          refine ord_load (t := 3) rfl rfl rfl (p := .pointer (some ⟨b13, 37, none⟩)) (v := .int .i64 sv) rfl (fun w' hC => load_one Tryd.underlying3 rfl (HCL.out _ hC).2.1) (fun K' hK => ?_)
          go_simp
          refine hK _ ?_
          clear hK K'
          iterate 4 (refine ord_pure rfl rfl rfl (fun K' hK => ?_); go_big_quiet_op; refine hK _ ?_; clear hK K')
          refine ord_load (t := 3) rfl rfl rfl (p := .pointer (some ⟨b13, 37, none⟩)) (v := .int .i64 sv) rfl (fun w' hC => load_one Tryd.underlying3 rfl (HCL.out _ hC).2.1) (fun K' hK => ?_)
          go_simp
          refine hK _ ?_
          clear hK K'
          iterate 4 (refine ord_pure rfl rfl rfl (fun K' hK => ?_); go_big_quiet_op; refine hK _ ?_; clear hK K')
          refine ord_load (t := 121) rfl rfl rfl (p := .pointer (some ⟨b13, 0, none⟩)) (v := .agg QE) rfl (fun w' hC => (HCL.out _ hC).2.2) (fun K' hK => ?_)
          go_simp
          refine hK _ ?_
          clear hK K'
          refine ord_acts rfl rfl (fun K' hK => ?_)
          go_simp
          refine (HW.out _).mono ?_
          rintro e w14 ⟨rfl, hb14⟩
          have hY2 := hY.below_ hb14
          refine hK _ _ (hY2.heap) ?_
          clear hK K'
          go_simp
          refine ord_neq_agg rfl rfl rfl rfl rfl (by kernel_rfl) (fun w' => HTE.out w') (fun K' hK => ?_)
          go_simp
          refine hK _ ?_
          clear hK K'
          iterate 2 (refine ord_pure rfl rfl rfl (fun K' hK => ?_); go_big_quiet_op; refine hK _ ?_; clear hK K')
          refine ord_nil ?_
          go_wp2_with fail
          go_roundw
          case rel => exact ⟨k + 1, R', by omega, by omega, by go_num, (hY2.drop.to (by ac_rfl : _ = blk b7 (.cells FE1 126) • fltab t 1 R' 1 • emp)).drop, G4⟩
          case measure => simp [intOf]; omega
    · have hstop : (ops.length : Int) ≤ k ∨ ((k : Int) < ops.length ∧ (60 : Int) ≤ k) := by omega
      rcases hstop with h1 | ⟨h1, h2⟩
      · go_wp2_with fail
        go_ret
        exact ⟨rfl, hS.below⟩
      · go_wp2_with fail
        go_ret
        exact ⟨rfl, hS.below⟩
end Go.Proofs.YtepaanpdjadakaaDoor
