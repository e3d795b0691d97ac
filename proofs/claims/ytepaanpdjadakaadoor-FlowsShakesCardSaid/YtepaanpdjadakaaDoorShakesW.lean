import Derived.Test.YtepaanpdjadakaaDoorFlOne
/-! FlowsShakes' walk. -/
namespace Go.Proofs.YtepaanpdjadakaaDoor
open Go Go.RowKit

theorem Sat.roll3 {B : Nat} {w0 w : World} {A1 A2 A3 F : HP} (h : Sat B w0 w (A1 • A2 • A3 • F)) : Sat B w0 w (A2 • A3 • A1 • F) := h.to (by rw [star_left_comm A1 A2, star_left_comm A1 A3])
theorem quiet_facts : ∀ m : Nat, m < 64 → hasF (bits .andNot .i64 (m : Int) 7) 2 = false ∧ hasF (bits .andNot .i64 (m : Int) 7) 4 = false ∧ hasF (bits .andNot .i64 (m : Int) 7) 1 = false ∧ hasF (bits .or .i64 (bits .andNot .i64 (m : Int) 7) 2) 4 = false ∧ hasF (bits .or .i64 (bits .andNot .i64 (m : Int) 7) 2) 2 = true := by
  decide +kernel
theorem see_quiet {s fl : Int} (h2 : hasF fl 2 = false) (h4 : hasF fl 4 = false) (h1 : hasF fl 1 = false) : seeF 6 ⟨3, 0⟩ s fl = (true, false, ⟨3, 0⟩) := by
  simp [seeF, openF, closesF, h2, h4, h1]
theorem see_syn {s fl : Int} (h2 : hasF fl 2 = true) (h4 : hasF fl 4 = false) : (seeF 6 ⟨3, 0⟩ s fl).1 = false := by
  simp [seeF, openF, h2, h4]
set_option maxRecDepth 8000 in
set_option maxHeartbeats 32000000 in
theorem shakes_at (first_ side_ : Bool) (flags : Int) (w : World) (hE : Et w) (a b s : Int) (hab : (first_ = true ∧ a = 1 ∧ b = 0) ∨ (first_ = false ∧ a = 0 ∧ b = 1)) (hs : (side_ = true ∧ s = 1) ∨ (side_ = false ∧ s = 0)) :
    Calls Tryd.prog 16 #[.bool first_, .int .i64 flags, .bool side_] w fun e w' => e = .returned (.bool true) ∧ Below w.heap.size w w' := by
  obtain ⟨m, hm, hmod⟩ := mod_of flags 64 (by decide) (by decide)
  obtain ⟨q2, q4, q1, qo4, qo2⟩ := quiet_facts m (by omega)
  have QF := Lib.hid (And.intro q2 (And.intro q4 (And.intro q1 (And.intro qo4 qo2))))
  have HM := Lib.hid hmod
  clear q2 q4 q1 qo4 qo2 hmod
  have hss : s = 0 ∨ s = 1 := by omega
  have haa : (a = 0 ∧ b = 1) ∨ (a = 1 ∧ b = 0) := by omega
  clear hss haa
  have c1 := flNew_any 1 (Sat.start w)
  rw [show roomOf 1 = 1 by decide] at c1
  have hw0 := fun W : World => way_any 0 W
  simp only [way0] at hw0
  have HW := Lib.hid hw0
  clear hw0
  obtain ⟨q0, hq0⟩ : ∃ q0, q0 = tupP 6 0 := ⟨_, rfl⟩
  have hp : q0.proto = 6 := by rw [hq0]; rfl
  have HP := Lib.hid hp
  have hbq : beginsF q0.proto 2 = true ∧ begP q0 = ⟨1, 0⟩ ∧ begU q0 0 = 30 := by rw [hq0]; decide
  have HBQ := Lib.hid hbq
  rw [← hq0] at HW
  have hlw : ∀ (bw : Nat) (W : World), W.heap[bw]? = some (.cells q0.enc.toArray 121) → (Instr.loadAt 121 (.pointer (some ⟨bw, 0, none⟩))).run Tryd.prog W = .ok (.agg q0.enc.toArray) W := fun bw W h => tupw_load h
  have HLW := Lib.hid hlw
  have hstq := tup_store q0
  have HSQ := Lib.hid hstq
  clear hp hbq hlw hq0 hstq
  obtain ⟨QE, hQE⟩ : ∃ QE, QE = q0.enc.toArray := ⟨_, rfl⟩
  rw [← hQE] at HW HLW HSQ
  have HQE := Lib.hid hQE
  clear hQE
  rcases hab with ⟨rfl, rfl, rfl⟩ | ⟨rfl, rfl, rfl⟩
  · rcases hs with ⟨rfl, rfl⟩ | ⟨rfl, rfl⟩
    · go_enter Tryd.func16, Tryd.ntmps16
      go_wp2_with fail
      refine c1.mono ?_
      rintro e w1 ⟨t, rfl, hS1⟩
      clear c1
      go_wp2_with fail
      refine (HW.out _).mono ?_
      rintro e w2 ⟨rfl, hb2⟩
      have hstq := HSQ.out
      have hS2 := (hS1.below_ hb2).alloc (.cells QE 121)
      generalize hbw : w2.heap.size = bw at *
      generalize hW2 : w2.alloc (.cells QE 121) = W2 at *
      have HB2 := Lib.hid (And.intro hbw hW2)
      clear hS1 hb2 hbw hW2
      go_wp2_with (refine wpList_store_run (t := 121) rfl rfl rfl rfl (hstq _ _ rfl) (stop_ ?_))
      unfold Stop
      try rw [HB2.out.2]
      try rw [HB2.out.1]
      clear hstq
      go_wp2_with fail
      refine (awake26_any _ (hS2.et hE.pos hE)).mono ?_
      rintro e w3 ⟨rfl, hb3⟩
      have hS3 := hS2.below_ hb3
      have hl := HLW.out bw w3 hS3.heap
      have c4 := beg1 (q := q0) (flags := 2) (now := 0) hS3.pull2 hE.pos hE (by omega) (by omega) HBQ.out.1
      rw [HBQ.out.2.1, HBQ.out.2.2, ← HQE.out] at c4
      clear hS2 hb3 HB2
      go_wp2_with (first | (refine wpList_load_run (t := 121) rfl rfl rfl hl ?_) | (refine wpList_load_want (t := 121) rfl rfl rfl hl ?_))
      refine c4.mono ?_
      rintro e w4 ⟨p, rfl, hS4⟩
      clear c4 hS3 hl
      have hl := HLW.out bw w4 hS4.pull2.heap
      have c := see1_no (q := q0) (side := 1) (flags := 16) (now := 1) hS4 (by omega) (by omega) (by rw [HP.out]; decide)
      rw [← HQE.out] at c
      go_wp2_with (first | (refine wpList_load_run (t := 121) rfl rfl rfl hl ?_) | (refine wpList_load_want (t := 121) rfl rfl rfl hl ?_))
      refine c.mono ?_
      rintro e w5 ⟨rfl, hS5⟩
      clear c hl hS4
      have hl := HLW.out bw w5 hS5.pull2.heap
      have c := see1_no (q := q0) (side := 1) (flags := 2) (now := 1) hS5 (by omega) (by omega) (by rw [HP.out]; decide)
      rw [← HQE.out] at c
      go_wp2_with (first | (refine wpList_load_run (t := 121) rfl rfl rfl hl ?_) | (refine wpList_load_want (t := 121) rfl rfl rfl hl ?_))
      refine c.mono ?_
      rintro e w6 ⟨rfl, hS6⟩
      clear c hl hS5
      have hl := HLW.out bw w6 hS6.pull2.heap
      have c := see1_no (q := q0) (side := 0) (flags := 16) (now := 1) hS6 (by omega) (by omega) (by rw [HP.out]; decide)
      rw [← HQE.out] at c
      go_wp2_with (first | (refine wpList_load_run (t := 121) rfl rfl rfl hl ?_) | (refine wpList_load_want (t := 121) rfl rfl rfl hl ?_))
      refine c.mono ?_
      rintro e w7 ⟨rfl, hS7⟩
      clear c hl hS6
      have hl := HLW.out bw w7 hS7.pull2.heap
      have c := see1_no (q := q0) (side := 1) (flags := 4) (now := 1) hS7 (by omega) (by omega) (by rw [HP.out]; decide)
      rw [← HQE.out] at c
      go_wp2_with (first | (refine wpList_load_run (t := 121) rfl rfl rfl hl ?_) | (refine wpList_load_want (t := 121) rfl rfl rfl hl ?_))
      refine c.mono ?_
      rintro e w8 ⟨rfl, hS8⟩
      clear c hl hS7
      have hl := HLW.out bw w8 hS8.pull2.heap
      have c := see1_yes (q := q0) (side := 0) (flags := 2) (now := 1) (ph' := ⟨1, 0⟩) (u' := 31) hS8 (by omega) (by omega) (by rw [HP.out]; decide) (by rw [HP.out]; decide)
      rw [← HQE.out] at c
      go_wp2_with (first | (refine wpList_load_run (t := 121) rfl rfl rfl hl ?_) | (refine wpList_load_want (t := 121) rfl rfl rfl hl ?_))
      refine c.mono ?_
      rintro e w9 ⟨rfl, hS9⟩
      clear c hl hS8
      have hl := HLW.out bw w9 hS9.pull2.heap
      have c := see1_yes (q := q0) (side := 1) (flags := 18) (now := 2) (ph' := ⟨2, 0⟩) (u' := 32) hS9 (by omega) (by omega) (by rw [HP.out]; decide) (by rw [HP.out]; decide)
      rw [← HQE.out] at c
      go_wp2_with (first | (refine wpList_load_run (t := 121) rfl rfl rfl hl ?_) | (refine wpList_load_want (t := 121) rfl rfl rfl hl ?_))
      refine c.mono ?_
      rintro e w10 ⟨rfl, hS10⟩
      clear c hl hS9
      have hl := HLW.out bw w10 hS10.pull2.heap
      have c := see1_no (q := q0) (side := 1) (flags := 24) (now := 2) hS10 (by omega) (by omega) (by rw [HP.out]; decide)
      rw [← HQE.out] at c
      go_wp2_with (first | (refine wpList_load_run (t := 121) rfl rfl rfl hl ?_) | (refine wpList_load_want (t := 121) rfl rfl rfl hl ?_))
      refine c.mono ?_
      rintro e w11 ⟨rfl, hS11⟩
      clear c hl hS10
      have hl := HLW.out bw w11 hS11.pull2.heap
      have c := see1_yes (q := q0) (side := 0) (flags := 16) (now := 3) (ph' := ⟨3, 0⟩) (u' := 3603) hS11 (by omega) (by omega) (by rw [HP.out]; decide) (by rw [HP.out]; decide)
      rw [← HQE.out] at c
      go_wp2_with (first | (refine wpList_load_run (t := 121) rfl rfl rfl hl ?_) | (refine wpList_load_want (t := 121) rfl rfl rfl hl ?_))
      refine c.mono ?_
      rintro e w12 ⟨rfl, hS12⟩
      clear c hl hS11
      have hl := HLW.out bw w12 hS12.pull2.heap
      have c := get1 hS12
      rw [← HQE.out] at c
      go_wp2_with (first | (refine wpList_load_run (t := 121) rfl rfl rfl hl ?_) | (refine wpList_load_want (t := 121) rfl rfl rfl hl ?_))
      refine c.mono ?_
      rintro e w13' ⟨rfl, hS13'⟩
      clear c hl hS12
      have hst := flw_storeN ⟨q0, 3, 0, 3603⟩
      have hX := (hS13'.alloc (.cells (Flw.enc ⟨q0, 3, 0, 3603⟩).toArray 126))
      obtain ⟨f1, f2, f3⟩ := flw_cells (f := ⟨q0, 3, 0, 3603⟩) hX.heap
      simp only at f1 f2 f3
      have hS13 := hX.roll3
      generalize (Flw.enc ⟨q0, 3, 0, 3603⟩).toArray = FE13 at *
      generalize hbf13 : w13'.heap.size = bf13 at *
      generalize hW13 : w13'.alloc (.cells FE13 126) = w13 at *
      have HB13 := Lib.hid (And.intro hbf13 hW13)
      clear hX hS13' hbf13 hW13
      go_wp2_with (refine wpList_store_run (t := 126) rfl rfl rfl rfl (hst _ _ rfl) (stop_ ?_))
      unfold Stop
      try rw [HB13.out.2]
      try rw [HB13.out.1]
      clear hst HB13
      -- quiet
      have hl := HLW.out bw w13 hS13.pull2.heap
      have c := see1_yes (q := q0) (side := 1) (flags := (bits .andNot .i64 (m : Int) 7)) (now := 4) (ph' := ⟨3, 0⟩) (u' := 3604) hS13 (by omega) (by omega) (by rw [HP.out]; exact see_quiet QF.out.1 QF.out.2.1 QF.out.2.2.1) (by rw [HP.out]; decide)
      rw [← HQE.out] at c
      go_wp2_with (first | (refine wpList_load_run (t := 121) rfl rfl rfl hl ?_) | (refine wpList_load_want (t := 121) rfl rfl rfl hl ?_))
      try rw [HM.out]
      refine c.mono ?_
      rintro e w14 ⟨rfl, hS14⟩
      clear c hl hS13
      have hl := HLW.out bw w14 hS14.pull2.heap
      have c := see1_no (q := q0) (side := 1) (flags := (bits .or .i64 (bits .andNot .i64 (m : Int) 7) 2)) (now := 4) hS14 (by omega) (by omega) (by rw [HP.out]; exact see_syn QF.out.2.2.2.2 QF.out.2.2.2.1)
      rw [← HQE.out] at c
      go_wp2_with (first | (refine wpList_load_run (t := 121) rfl rfl rfl hl ?_) | (refine wpList_load_want (t := 121) rfl rfl rfl hl ?_))
      try rw [HM.out]
      refine c.mono ?_
      rintro e w15 ⟨rfl, hS15⟩
      clear c hl hS14
      have hl := HLW.out bw w15 hS15.pull2.heap
      have c := see1_yes (q := q0) (side := 1) (flags := 17) (now := 5) (ph' := ⟨4, 1⟩) (u' := 65) hS15 (by omega) (by omega) (by rw [HP.out]; decide) (by rw [HP.out]; decide)
      rw [← HQE.out] at c
      go_wp2_with (first | (refine wpList_load_run (t := 121) rfl rfl rfl hl ?_) | (refine wpList_load_want (t := 121) rfl rfl rfl hl ?_))
      refine c.mono ?_
      rintro e w16 ⟨rfl, hS16⟩
      clear c hl hS15
      have hl := HLW.out bw w16 hS16.pull2.heap
      have c := see1_yes (q := q0) (side := 0) (flags := 16) (now := 6) (ph' := ⟨4, 1⟩) (u' := 66) hS16 (by omega) (by omega) (by rw [HP.out]; decide) (by rw [HP.out]; decide)
      rw [← HQE.out] at c
      go_wp2_with (first | (refine wpList_load_run (t := 121) rfl rfl rfl hl ?_) | (refine wpList_load_want (t := 121) rfl rfl rfl hl ?_))
      refine c.mono ?_
      rintro e w17 ⟨rfl, hS17⟩
      clear c hl hS16
      have hl := HLW.out bw w17 hS17.pull2.heap
      have c := see1_yes (q := q0) (side := 0) (flags := 17) (now := 7) (ph' := ⟨5, 1⟩) (u' := 67) hS17 (by omega) (by omega) (by rw [HP.out]; decide) (by rw [HP.out]; decide)
      rw [← HQE.out] at c
      go_wp2_with (first | (refine wpList_load_run (t := 121) rfl rfl rfl hl ?_) | (refine wpList_load_want (t := 121) rfl rfl rfl hl ?_))
      refine c.mono ?_
      rintro e w18 ⟨rfl, hS18⟩
      clear c hl hS17
      have hl := HLW.out bw w18 hS18.pull2.heap
      have c := get1 hS18
      rw [← HQE.out] at c
      go_wp2_with (first | (refine wpList_load_run (t := 121) rfl rfl rfl hl ?_) | (refine wpList_load_want (t := 121) rfl rfl rfl hl ?_))
      refine c.mono ?_
      rintro e w19' ⟨rfl, hS19'⟩
      clear c hl hS18
      have hst := flw_storeN ⟨q0, 5, 1, 67⟩
      have hX := (hS19'.alloc (.cells (Flw.enc ⟨q0, 5, 1, 67⟩).toArray 126))
      obtain ⟨f1, f2, f3⟩ := flw_cells (f := ⟨q0, 5, 1, 67⟩) hX.heap
      simp only at f1 f2 f3
      have hS19 := hX.roll3
      generalize (Flw.enc ⟨q0, 5, 1, 67⟩).toArray = FE19 at *
      generalize hbf19 : w19'.heap.size = bf19 at *
      generalize hW19 : w19'.alloc (.cells FE19 126) = w19 at *
      have HB19 := Lib.hid (And.intro hbf19 hW19)
      clear hX hS19' hbf19 hW19
      go_wp2_with (refine wpList_store_run (t := 126) rfl rfl rfl rfl (hst _ _ rfl) (stop_ ?_))
      unfold Stop
      try rw [HB19.out.2]
      try rw [HB19.out.1]
      clear hst HB19
      have hl := HLW.out bw w19 hS19.pull2.heap
      have c := see1_yes (q := q0) (side := 0) (flags := 16) (now := 8) (ph' := ⟨5, 1⟩) (u' := 68) hS19 (by omega) (by omega) (by rw [HP.out]; decide) (by rw [HP.out]; decide)
      rw [← HQE.out] at c
      go_wp2_with (first | (refine wpList_load_run (t := 121) rfl rfl rfl hl ?_) | (refine wpList_load_want (t := 121) rfl rfl rfl hl ?_))
      refine c.mono ?_
      rintro e w20 ⟨rfl, hS20⟩
      clear c hl hS19
      have hl := HLW.out bw w20 hS20.pull2.heap
      have c := see1_end (q := q0) (side := 1) (flags := 16) (now := 9) (ph' := ⟨5, 1⟩) hS20 (by omega) (by omega) (by rw [HP.out]; decide)
      rw [← HQE.out] at c
      go_wp2_with (first | (refine wpList_load_run (t := 121) rfl rfl rfl hl ?_) | (refine wpList_load_want (t := 121) rfl rfl rfl hl ?_))
      refine c.mono ?_
      rintro e w21 ⟨rfl, hS21⟩
      clear c hl hS20
      have c := flLen_any hS21
      rw [show (([] : List FIt).length : Int) = 0 from rfl] at c
      go_wp2_with fail
      refine c.mono ?_
      rintro e wy ⟨rfl, rfl⟩
      clear c
      have hl := HLW.out bw w21 hS21.pull2.heap
      have c := see0_no hS21 q0 (0) (16) (10) (by omega)
      rw [← HQE.out] at c
      go_wp2_with (first | (refine wpList_load_run (t := 121) rfl rfl rfl hl ?_) | (refine wpList_load_want (t := 121) rfl rfl rfl hl ?_))
      refine c.mono ?_
      rintro e w22 ⟨rfl, hS22⟩
      clear c hl hS21
      go_wp2_with fail
      go_ret
      exact ⟨rfl, hS22.below⟩
    · go_enter Tryd.func16, Tryd.ntmps16
      go_wp2_with fail
      refine c1.mono ?_
      rintro e w1 ⟨t, rfl, hS1⟩
      clear c1
      go_wp2_with fail
      refine (HW.out _).mono ?_
      rintro e w2 ⟨rfl, hb2⟩
      have hstq := HSQ.out
      have hS2 := (hS1.below_ hb2).alloc (.cells QE 121)
      generalize hbw : w2.heap.size = bw at *
      generalize hW2 : w2.alloc (.cells QE 121) = W2 at *
      have HB2 := Lib.hid (And.intro hbw hW2)
      clear hS1 hb2 hbw hW2
      go_wp2_with (refine wpList_store_run (t := 121) rfl rfl rfl rfl (hstq _ _ rfl) (stop_ ?_))
      unfold Stop
      try rw [HB2.out.2]
      try rw [HB2.out.1]
      clear hstq
      go_wp2_with fail
      refine (awake26_any _ (hS2.et hE.pos hE)).mono ?_
      rintro e w3 ⟨rfl, hb3⟩
      have hS3 := hS2.below_ hb3
      have hl := HLW.out bw w3 hS3.heap
      have c4 := beg1 (q := q0) (flags := 2) (now := 0) hS3.pull2 hE.pos hE (by omega) (by omega) HBQ.out.1
      rw [HBQ.out.2.1, HBQ.out.2.2, ← HQE.out] at c4
      clear hS2 hb3 HB2
      go_wp2_with (first | (refine wpList_load_run (t := 121) rfl rfl rfl hl ?_) | (refine wpList_load_want (t := 121) rfl rfl rfl hl ?_))
      refine c4.mono ?_
      rintro e w4 ⟨p, rfl, hS4⟩
      clear c4 hS3 hl
      have hl := HLW.out bw w4 hS4.pull2.heap
      have c := see1_no (q := q0) (side := 1) (flags := 16) (now := 1) hS4 (by omega) (by omega) (by rw [HP.out]; decide)
      rw [← HQE.out] at c
      go_wp2_with (first | (refine wpList_load_run (t := 121) rfl rfl rfl hl ?_) | (refine wpList_load_want (t := 121) rfl rfl rfl hl ?_))
      refine c.mono ?_
      rintro e w5 ⟨rfl, hS5⟩
      clear c hl hS4
      have hl := HLW.out bw w5 hS5.pull2.heap
      have c := see1_no (q := q0) (side := 1) (flags := 2) (now := 1) hS5 (by omega) (by omega) (by rw [HP.out]; decide)
      rw [← HQE.out] at c
      go_wp2_with (first | (refine wpList_load_run (t := 121) rfl rfl rfl hl ?_) | (refine wpList_load_want (t := 121) rfl rfl rfl hl ?_))
      refine c.mono ?_
      rintro e w6 ⟨rfl, hS6⟩
      clear c hl hS5
      have hl := HLW.out bw w6 hS6.pull2.heap
      have c := see1_no (q := q0) (side := 0) (flags := 16) (now := 1) hS6 (by omega) (by omega) (by rw [HP.out]; decide)
      rw [← HQE.out] at c
      go_wp2_with (first | (refine wpList_load_run (t := 121) rfl rfl rfl hl ?_) | (refine wpList_load_want (t := 121) rfl rfl rfl hl ?_))
      refine c.mono ?_
      rintro e w7 ⟨rfl, hS7⟩
      clear c hl hS6
      have hl := HLW.out bw w7 hS7.pull2.heap
      have c := see1_no (q := q0) (side := 1) (flags := 4) (now := 1) hS7 (by omega) (by omega) (by rw [HP.out]; decide)
      rw [← HQE.out] at c
      go_wp2_with (first | (refine wpList_load_run (t := 121) rfl rfl rfl hl ?_) | (refine wpList_load_want (t := 121) rfl rfl rfl hl ?_))
      refine c.mono ?_
      rintro e w8 ⟨rfl, hS8⟩
      clear c hl hS7
      have hl := HLW.out bw w8 hS8.pull2.heap
      have c := see1_yes (q := q0) (side := 0) (flags := 2) (now := 1) (ph' := ⟨1, 0⟩) (u' := 31) hS8 (by omega) (by omega) (by rw [HP.out]; decide) (by rw [HP.out]; decide)
      rw [← HQE.out] at c
      go_wp2_with (first | (refine wpList_load_run (t := 121) rfl rfl rfl hl ?_) | (refine wpList_load_want (t := 121) rfl rfl rfl hl ?_))
      refine c.mono ?_
      rintro e w9 ⟨rfl, hS9⟩
      clear c hl hS8
      have hl := HLW.out bw w9 hS9.pull2.heap
      have c := see1_yes (q := q0) (side := 1) (flags := 18) (now := 2) (ph' := ⟨2, 0⟩) (u' := 32) hS9 (by omega) (by omega) (by rw [HP.out]; decide) (by rw [HP.out]; decide)
      rw [← HQE.out] at c
      go_wp2_with (first | (refine wpList_load_run (t := 121) rfl rfl rfl hl ?_) | (refine wpList_load_want (t := 121) rfl rfl rfl hl ?_))
      refine c.mono ?_
      rintro e w10 ⟨rfl, hS10⟩
      clear c hl hS9
      have hl := HLW.out bw w10 hS10.pull2.heap
      have c := see1_no (q := q0) (side := 1) (flags := 24) (now := 2) hS10 (by omega) (by omega) (by rw [HP.out]; decide)
      rw [← HQE.out] at c
      go_wp2_with (first | (refine wpList_load_run (t := 121) rfl rfl rfl hl ?_) | (refine wpList_load_want (t := 121) rfl rfl rfl hl ?_))
      refine c.mono ?_
      rintro e w11 ⟨rfl, hS11⟩
      clear c hl hS10
      have hl := HLW.out bw w11 hS11.pull2.heap
      have c := see1_yes (q := q0) (side := 0) (flags := 16) (now := 3) (ph' := ⟨3, 0⟩) (u' := 3603) hS11 (by omega) (by omega) (by rw [HP.out]; decide) (by rw [HP.out]; decide)
      rw [← HQE.out] at c
      go_wp2_with (first | (refine wpList_load_run (t := 121) rfl rfl rfl hl ?_) | (refine wpList_load_want (t := 121) rfl rfl rfl hl ?_))
      refine c.mono ?_
      rintro e w12 ⟨rfl, hS12⟩
      clear c hl hS11
      have hl := HLW.out bw w12 hS12.pull2.heap
      have c := get1 hS12
      rw [← HQE.out] at c
      go_wp2_with (first | (refine wpList_load_run (t := 121) rfl rfl rfl hl ?_) | (refine wpList_load_want (t := 121) rfl rfl rfl hl ?_))
      refine c.mono ?_
      rintro e w13' ⟨rfl, hS13'⟩
      clear c hl hS12
      have hst := flw_storeN ⟨q0, 3, 0, 3603⟩
      have hX := (hS13'.alloc (.cells (Flw.enc ⟨q0, 3, 0, 3603⟩).toArray 126))
      obtain ⟨f1, f2, f3⟩ := flw_cells (f := ⟨q0, 3, 0, 3603⟩) hX.heap
      simp only at f1 f2 f3
      have hS13 := hX.roll3
      generalize (Flw.enc ⟨q0, 3, 0, 3603⟩).toArray = FE13 at *
      generalize hbf13 : w13'.heap.size = bf13 at *
      generalize hW13 : w13'.alloc (.cells FE13 126) = w13 at *
      have HB13 := Lib.hid (And.intro hbf13 hW13)
      clear hX hS13' hbf13 hW13
      go_wp2_with (refine wpList_store_run (t := 126) rfl rfl rfl rfl (hst _ _ rfl) (stop_ ?_))
      unfold Stop
      try rw [HB13.out.2]
      try rw [HB13.out.1]
      clear hst HB13
      -- quiet
      have hl := HLW.out bw w13 hS13.pull2.heap
      have c := see1_yes (q := q0) (side := 0) (flags := (bits .andNot .i64 (m : Int) 7)) (now := 4) (ph' := ⟨3, 0⟩) (u' := 3604) hS13 (by omega) (by omega) (by rw [HP.out]; exact see_quiet QF.out.1 QF.out.2.1 QF.out.2.2.1) (by rw [HP.out]; decide)
      rw [← HQE.out] at c
      go_wp2_with (first | (refine wpList_load_run (t := 121) rfl rfl rfl hl ?_) | (refine wpList_load_want (t := 121) rfl rfl rfl hl ?_))
      try rw [HM.out]
      refine c.mono ?_
      rintro e w14 ⟨rfl, hS14⟩
      clear c hl hS13
      have hl := HLW.out bw w14 hS14.pull2.heap
      have c := see1_no (q := q0) (side := 0) (flags := (bits .or .i64 (bits .andNot .i64 (m : Int) 7) 2)) (now := 4) hS14 (by omega) (by omega) (by rw [HP.out]; exact see_syn QF.out.2.2.2.2 QF.out.2.2.2.1)
      rw [← HQE.out] at c
      go_wp2_with (first | (refine wpList_load_run (t := 121) rfl rfl rfl hl ?_) | (refine wpList_load_want (t := 121) rfl rfl rfl hl ?_))
      try rw [HM.out]
      refine c.mono ?_
      rintro e w15 ⟨rfl, hS15⟩
      clear c hl hS14
      have hl := HLW.out bw w15 hS15.pull2.heap
      have c := see1_yes (q := q0) (side := 1) (flags := 17) (now := 5) (ph' := ⟨4, 1⟩) (u' := 65) hS15 (by omega) (by omega) (by rw [HP.out]; decide) (by rw [HP.out]; decide)
      rw [← HQE.out] at c
      go_wp2_with (first | (refine wpList_load_run (t := 121) rfl rfl rfl hl ?_) | (refine wpList_load_want (t := 121) rfl rfl rfl hl ?_))
      refine c.mono ?_
      rintro e w16 ⟨rfl, hS16⟩
      clear c hl hS15
      have hl := HLW.out bw w16 hS16.pull2.heap
      have c := see1_yes (q := q0) (side := 0) (flags := 16) (now := 6) (ph' := ⟨4, 1⟩) (u' := 66) hS16 (by omega) (by omega) (by rw [HP.out]; decide) (by rw [HP.out]; decide)
      rw [← HQE.out] at c
      go_wp2_with (first | (refine wpList_load_run (t := 121) rfl rfl rfl hl ?_) | (refine wpList_load_want (t := 121) rfl rfl rfl hl ?_))
      refine c.mono ?_
      rintro e w17 ⟨rfl, hS17⟩
      clear c hl hS16
      have hl := HLW.out bw w17 hS17.pull2.heap
      have c := see1_yes (q := q0) (side := 0) (flags := 17) (now := 7) (ph' := ⟨5, 1⟩) (u' := 67) hS17 (by omega) (by omega) (by rw [HP.out]; decide) (by rw [HP.out]; decide)
      rw [← HQE.out] at c
      go_wp2_with (first | (refine wpList_load_run (t := 121) rfl rfl rfl hl ?_) | (refine wpList_load_want (t := 121) rfl rfl rfl hl ?_))
      refine c.mono ?_
      rintro e w18 ⟨rfl, hS18⟩
      clear c hl hS17
      have hl := HLW.out bw w18 hS18.pull2.heap
      have c := get1 hS18
      rw [← HQE.out] at c
      go_wp2_with (first | (refine wpList_load_run (t := 121) rfl rfl rfl hl ?_) | (refine wpList_load_want (t := 121) rfl rfl rfl hl ?_))
      refine c.mono ?_
      rintro e w19' ⟨rfl, hS19'⟩
      clear c hl hS18
      have hst := flw_storeN ⟨q0, 5, 1, 67⟩
      have hX := (hS19'.alloc (.cells (Flw.enc ⟨q0, 5, 1, 67⟩).toArray 126))
      obtain ⟨f1, f2, f3⟩ := flw_cells (f := ⟨q0, 5, 1, 67⟩) hX.heap
      simp only at f1 f2 f3
      have hS19 := hX.roll3
      generalize (Flw.enc ⟨q0, 5, 1, 67⟩).toArray = FE19 at *
      generalize hbf19 : w19'.heap.size = bf19 at *
      generalize hW19 : w19'.alloc (.cells FE19 126) = w19 at *
      have HB19 := Lib.hid (And.intro hbf19 hW19)
      clear hX hS19' hbf19 hW19
      go_wp2_with (refine wpList_store_run (t := 126) rfl rfl rfl rfl (hst _ _ rfl) (stop_ ?_))
      unfold Stop
      try rw [HB19.out.2]
      try rw [HB19.out.1]
      clear hst HB19
      have hl := HLW.out bw w19 hS19.pull2.heap
      have c := see1_yes (q := q0) (side := 0) (flags := 16) (now := 8) (ph' := ⟨5, 1⟩) (u' := 68) hS19 (by omega) (by omega) (by rw [HP.out]; decide) (by rw [HP.out]; decide)
      rw [← HQE.out] at c
      go_wp2_with (first | (refine wpList_load_run (t := 121) rfl rfl rfl hl ?_) | (refine wpList_load_want (t := 121) rfl rfl rfl hl ?_))
      refine c.mono ?_
      rintro e w20 ⟨rfl, hS20⟩
      clear c hl hS19
      have hl := HLW.out bw w20 hS20.pull2.heap
      have c := see1_end (q := q0) (side := 1) (flags := 16) (now := 9) (ph' := ⟨5, 1⟩) hS20 (by omega) (by omega) (by rw [HP.out]; decide)
      rw [← HQE.out] at c
      go_wp2_with (first | (refine wpList_load_run (t := 121) rfl rfl rfl hl ?_) | (refine wpList_load_want (t := 121) rfl rfl rfl hl ?_))
      refine c.mono ?_
      rintro e w21 ⟨rfl, hS21⟩
      clear c hl hS20
      have c := flLen_any hS21
      rw [show (([] : List FIt).length : Int) = 0 from rfl] at c
      go_wp2_with fail
      refine c.mono ?_
      rintro e wy ⟨rfl, rfl⟩
      clear c
      have hl := HLW.out bw w21 hS21.pull2.heap
      have c := see0_no hS21 q0 (0) (16) (10) (by omega)
      rw [← HQE.out] at c
      go_wp2_with (first | (refine wpList_load_run (t := 121) rfl rfl rfl hl ?_) | (refine wpList_load_want (t := 121) rfl rfl rfl hl ?_))
      refine c.mono ?_
      rintro e w22 ⟨rfl, hS22⟩
      clear c hl hS21
      go_wp2_with fail
      go_ret
      exact ⟨rfl, hS22.below⟩
  · rcases hs with ⟨rfl, rfl⟩ | ⟨rfl, rfl⟩
    · go_enter Tryd.func16, Tryd.ntmps16
      go_wp2_with fail
      refine c1.mono ?_
      rintro e w1 ⟨t, rfl, hS1⟩
      clear c1
      go_wp2_with fail
      refine (HW.out _).mono ?_
      rintro e w2 ⟨rfl, hb2⟩
      have hstq := HSQ.out
      have hS2 := (hS1.below_ hb2).alloc (.cells QE 121)
      generalize hbw : w2.heap.size = bw at *
      generalize hW2 : w2.alloc (.cells QE 121) = W2 at *
      have HB2 := Lib.hid (And.intro hbw hW2)
      clear hS1 hb2 hbw hW2
      go_wp2_with (refine wpList_store_run (t := 121) rfl rfl rfl rfl (hstq _ _ rfl) (stop_ ?_))
      unfold Stop
      try rw [HB2.out.2]
      try rw [HB2.out.1]
      clear hstq
      go_wp2_with fail
      refine (awake26_any _ (hS2.et hE.pos hE)).mono ?_
      rintro e w3 ⟨rfl, hb3⟩
      have hS3 := hS2.below_ hb3
      have hl := HLW.out bw w3 hS3.heap
      have c4 := beg1 (q := q0) (flags := 2) (now := 0) hS3.pull2 hE.pos hE (by omega) (by omega) HBQ.out.1
      rw [HBQ.out.2.1, HBQ.out.2.2, ← HQE.out] at c4
      clear hS2 hb3 HB2
      go_wp2_with (first | (refine wpList_load_run (t := 121) rfl rfl rfl hl ?_) | (refine wpList_load_want (t := 121) rfl rfl rfl hl ?_))
      refine c4.mono ?_
      rintro e w4 ⟨p, rfl, hS4⟩
      clear c4 hS3 hl
      have hl := HLW.out bw w4 hS4.pull2.heap
      have c := see1_no (q := q0) (side := 1) (flags := 16) (now := 1) hS4 (by omega) (by omega) (by rw [HP.out]; decide)
      rw [← HQE.out] at c
      go_wp2_with (first | (refine wpList_load_run (t := 121) rfl rfl rfl hl ?_) | (refine wpList_load_want (t := 121) rfl rfl rfl hl ?_))
      refine c.mono ?_
      rintro e w5 ⟨rfl, hS5⟩
      clear c hl hS4
      have hl := HLW.out bw w5 hS5.pull2.heap
      have c := see1_no (q := q0) (side := 1) (flags := 2) (now := 1) hS5 (by omega) (by omega) (by rw [HP.out]; decide)
      rw [← HQE.out] at c
      go_wp2_with (first | (refine wpList_load_run (t := 121) rfl rfl rfl hl ?_) | (refine wpList_load_want (t := 121) rfl rfl rfl hl ?_))
      refine c.mono ?_
      rintro e w6 ⟨rfl, hS6⟩
      clear c hl hS5
      have hl := HLW.out bw w6 hS6.pull2.heap
      have c := see1_no (q := q0) (side := 0) (flags := 16) (now := 1) hS6 (by omega) (by omega) (by rw [HP.out]; decide)
      rw [← HQE.out] at c
      go_wp2_with (first | (refine wpList_load_run (t := 121) rfl rfl rfl hl ?_) | (refine wpList_load_want (t := 121) rfl rfl rfl hl ?_))
      refine c.mono ?_
      rintro e w7 ⟨rfl, hS7⟩
      clear c hl hS6
      have hl := HLW.out bw w7 hS7.pull2.heap
      have c := see1_no (q := q0) (side := 1) (flags := 4) (now := 1) hS7 (by omega) (by omega) (by rw [HP.out]; decide)
      rw [← HQE.out] at c
      go_wp2_with (first | (refine wpList_load_run (t := 121) rfl rfl rfl hl ?_) | (refine wpList_load_want (t := 121) rfl rfl rfl hl ?_))
      refine c.mono ?_
      rintro e w8 ⟨rfl, hS8⟩
      clear c hl hS7
      have hl := HLW.out bw w8 hS8.pull2.heap
      have c := see1_yes (q := q0) (side := 0) (flags := 2) (now := 1) (ph' := ⟨1, 0⟩) (u' := 31) hS8 (by omega) (by omega) (by rw [HP.out]; decide) (by rw [HP.out]; decide)
      rw [← HQE.out] at c
      go_wp2_with (first | (refine wpList_load_run (t := 121) rfl rfl rfl hl ?_) | (refine wpList_load_want (t := 121) rfl rfl rfl hl ?_))
      refine c.mono ?_
      rintro e w9 ⟨rfl, hS9⟩
      clear c hl hS8
      have hl := HLW.out bw w9 hS9.pull2.heap
      have c := see1_yes (q := q0) (side := 1) (flags := 18) (now := 2) (ph' := ⟨2, 0⟩) (u' := 32) hS9 (by omega) (by omega) (by rw [HP.out]; decide) (by rw [HP.out]; decide)
      rw [← HQE.out] at c
      go_wp2_with (first | (refine wpList_load_run (t := 121) rfl rfl rfl hl ?_) | (refine wpList_load_want (t := 121) rfl rfl rfl hl ?_))
      refine c.mono ?_
      rintro e w10 ⟨rfl, hS10⟩
      clear c hl hS9
      have hl := HLW.out bw w10 hS10.pull2.heap
      have c := see1_no (q := q0) (side := 1) (flags := 24) (now := 2) hS10 (by omega) (by omega) (by rw [HP.out]; decide)
      rw [← HQE.out] at c
      go_wp2_with (first | (refine wpList_load_run (t := 121) rfl rfl rfl hl ?_) | (refine wpList_load_want (t := 121) rfl rfl rfl hl ?_))
      refine c.mono ?_
      rintro e w11 ⟨rfl, hS11⟩
      clear c hl hS10
      have hl := HLW.out bw w11 hS11.pull2.heap
      have c := see1_yes (q := q0) (side := 0) (flags := 16) (now := 3) (ph' := ⟨3, 0⟩) (u' := 3603) hS11 (by omega) (by omega) (by rw [HP.out]; decide) (by rw [HP.out]; decide)
      rw [← HQE.out] at c
      go_wp2_with (first | (refine wpList_load_run (t := 121) rfl rfl rfl hl ?_) | (refine wpList_load_want (t := 121) rfl rfl rfl hl ?_))
      refine c.mono ?_
      rintro e w12 ⟨rfl, hS12⟩
      clear c hl hS11
      have hl := HLW.out bw w12 hS12.pull2.heap
      have c := get1 hS12
      rw [← HQE.out] at c
      go_wp2_with (first | (refine wpList_load_run (t := 121) rfl rfl rfl hl ?_) | (refine wpList_load_want (t := 121) rfl rfl rfl hl ?_))
      refine c.mono ?_
      rintro e w13' ⟨rfl, hS13'⟩
      clear c hl hS12
      have hst := flw_storeN ⟨q0, 3, 0, 3603⟩
      have hX := (hS13'.alloc (.cells (Flw.enc ⟨q0, 3, 0, 3603⟩).toArray 126))
      obtain ⟨f1, f2, f3⟩ := flw_cells (f := ⟨q0, 3, 0, 3603⟩) hX.heap
      simp only at f1 f2 f3
      have hS13 := hX.roll3
      generalize (Flw.enc ⟨q0, 3, 0, 3603⟩).toArray = FE13 at *
      generalize hbf13 : w13'.heap.size = bf13 at *
      generalize hW13 : w13'.alloc (.cells FE13 126) = w13 at *
      have HB13 := Lib.hid (And.intro hbf13 hW13)
      clear hX hS13' hbf13 hW13
      go_wp2_with (refine wpList_store_run (t := 126) rfl rfl rfl rfl (hst _ _ rfl) (stop_ ?_))
      unfold Stop
      try rw [HB13.out.2]
      try rw [HB13.out.1]
      clear hst HB13
      -- quiet
      have hl := HLW.out bw w13 hS13.pull2.heap
      have c := see1_yes (q := q0) (side := 1) (flags := (bits .andNot .i64 (m : Int) 7)) (now := 4) (ph' := ⟨3, 0⟩) (u' := 3604) hS13 (by omega) (by omega) (by rw [HP.out]; exact see_quiet QF.out.1 QF.out.2.1 QF.out.2.2.1) (by rw [HP.out]; decide)
      rw [← HQE.out] at c
      go_wp2_with (first | (refine wpList_load_run (t := 121) rfl rfl rfl hl ?_) | (refine wpList_load_want (t := 121) rfl rfl rfl hl ?_))
      try rw [HM.out]
      refine c.mono ?_
      rintro e w14 ⟨rfl, hS14⟩
      clear c hl hS13
      have hl := HLW.out bw w14 hS14.pull2.heap
      have c := see1_no (q := q0) (side := 1) (flags := (bits .or .i64 (bits .andNot .i64 (m : Int) 7) 2)) (now := 4) hS14 (by omega) (by omega) (by rw [HP.out]; exact see_syn QF.out.2.2.2.2 QF.out.2.2.2.1)
      rw [← HQE.out] at c
      go_wp2_with (first | (refine wpList_load_run (t := 121) rfl rfl rfl hl ?_) | (refine wpList_load_want (t := 121) rfl rfl rfl hl ?_))
      try rw [HM.out]
      refine c.mono ?_
      rintro e w15 ⟨rfl, hS15⟩
      clear c hl hS14
      have hl := HLW.out bw w15 hS15.pull2.heap
      have c := see1_yes (q := q0) (side := 0) (flags := 17) (now := 5) (ph' := ⟨4, 0⟩) (u' := 65) hS15 (by omega) (by omega) (by rw [HP.out]; decide) (by rw [HP.out]; decide)
      rw [← HQE.out] at c
      go_wp2_with (first | (refine wpList_load_run (t := 121) rfl rfl rfl hl ?_) | (refine wpList_load_want (t := 121) rfl rfl rfl hl ?_))
      refine c.mono ?_
      rintro e w16 ⟨rfl, hS16⟩
      clear c hl hS15
      have hl := HLW.out bw w16 hS16.pull2.heap
      have c := see1_yes (q := q0) (side := 1) (flags := 16) (now := 6) (ph' := ⟨4, 0⟩) (u' := 66) hS16 (by omega) (by omega) (by rw [HP.out]; decide) (by rw [HP.out]; decide)
      rw [← HQE.out] at c
      go_wp2_with (first | (refine wpList_load_run (t := 121) rfl rfl rfl hl ?_) | (refine wpList_load_want (t := 121) rfl rfl rfl hl ?_))
      refine c.mono ?_
      rintro e w17 ⟨rfl, hS17⟩
      clear c hl hS16
      have hl := HLW.out bw w17 hS17.pull2.heap
      have c := see1_yes (q := q0) (side := 1) (flags := 17) (now := 7) (ph' := ⟨5, 0⟩) (u' := 67) hS17 (by omega) (by omega) (by rw [HP.out]; decide) (by rw [HP.out]; decide)
      rw [← HQE.out] at c
      go_wp2_with (first | (refine wpList_load_run (t := 121) rfl rfl rfl hl ?_) | (refine wpList_load_want (t := 121) rfl rfl rfl hl ?_))
      refine c.mono ?_
      rintro e w18 ⟨rfl, hS18⟩
      clear c hl hS17
      have hl := HLW.out bw w18 hS18.pull2.heap
      have c := get1 hS18
      rw [← HQE.out] at c
      go_wp2_with (first | (refine wpList_load_run (t := 121) rfl rfl rfl hl ?_) | (refine wpList_load_want (t := 121) rfl rfl rfl hl ?_))
      refine c.mono ?_
      rintro e w19' ⟨rfl, hS19'⟩
      clear c hl hS18
      have hst := flw_storeN ⟨q0, 5, 0, 67⟩
      have hX := (hS19'.alloc (.cells (Flw.enc ⟨q0, 5, 0, 67⟩).toArray 126))
      obtain ⟨f1, f2, f3⟩ := flw_cells (f := ⟨q0, 5, 0, 67⟩) hX.heap
      simp only at f1 f2 f3
      have hS19 := hX.roll3
      generalize (Flw.enc ⟨q0, 5, 0, 67⟩).toArray = FE19 at *
      generalize hbf19 : w19'.heap.size = bf19 at *
      generalize hW19 : w19'.alloc (.cells FE19 126) = w19 at *
      have HB19 := Lib.hid (And.intro hbf19 hW19)
      clear hX hS19' hbf19 hW19
      go_wp2_with (refine wpList_store_run (t := 126) rfl rfl rfl rfl (hst _ _ rfl) (stop_ ?_))
      unfold Stop
      try rw [HB19.out.2]
      try rw [HB19.out.1]
      clear hst HB19
      have hl := HLW.out bw w19 hS19.pull2.heap
      have c := see1_yes (q := q0) (side := 1) (flags := 16) (now := 8) (ph' := ⟨5, 0⟩) (u' := 68) hS19 (by omega) (by omega) (by rw [HP.out]; decide) (by rw [HP.out]; decide)
      rw [← HQE.out] at c
      go_wp2_with (first | (refine wpList_load_run (t := 121) rfl rfl rfl hl ?_) | (refine wpList_load_want (t := 121) rfl rfl rfl hl ?_))
      refine c.mono ?_
      rintro e w20 ⟨rfl, hS20⟩
      clear c hl hS19
      have hl := HLW.out bw w20 hS20.pull2.heap
      have c := see1_end (q := q0) (side := 0) (flags := 16) (now := 9) (ph' := ⟨5, 0⟩) hS20 (by omega) (by omega) (by rw [HP.out]; decide)
      rw [← HQE.out] at c
      go_wp2_with (first | (refine wpList_load_run (t := 121) rfl rfl rfl hl ?_) | (refine wpList_load_want (t := 121) rfl rfl rfl hl ?_))
      refine c.mono ?_
      rintro e w21 ⟨rfl, hS21⟩
      clear c hl hS20
      have c := flLen_any hS21
      rw [show (([] : List FIt).length : Int) = 0 from rfl] at c
      go_wp2_with fail
      refine c.mono ?_
      rintro e wy ⟨rfl, rfl⟩
      clear c
      have hl := HLW.out bw w21 hS21.pull2.heap
      have c := see0_no hS21 q0 (1) (16) (10) (by omega)
      rw [← HQE.out] at c
      go_wp2_with (first | (refine wpList_load_run (t := 121) rfl rfl rfl hl ?_) | (refine wpList_load_want (t := 121) rfl rfl rfl hl ?_))
      refine c.mono ?_
      rintro e w22 ⟨rfl, hS22⟩
      clear c hl hS21
      go_wp2_with fail
      go_ret
      exact ⟨rfl, hS22.below⟩
    · go_enter Tryd.func16, Tryd.ntmps16
      go_wp2_with fail
      refine c1.mono ?_
      rintro e w1 ⟨t, rfl, hS1⟩
      clear c1
      go_wp2_with fail
      refine (HW.out _).mono ?_
      rintro e w2 ⟨rfl, hb2⟩
      have hstq := HSQ.out
      have hS2 := (hS1.below_ hb2).alloc (.cells QE 121)
      generalize hbw : w2.heap.size = bw at *
      generalize hW2 : w2.alloc (.cells QE 121) = W2 at *
      have HB2 := Lib.hid (And.intro hbw hW2)
      clear hS1 hb2 hbw hW2
      go_wp2_with (refine wpList_store_run (t := 121) rfl rfl rfl rfl (hstq _ _ rfl) (stop_ ?_))
      unfold Stop
      try rw [HB2.out.2]
      try rw [HB2.out.1]
      clear hstq
      go_wp2_with fail
      refine (awake26_any _ (hS2.et hE.pos hE)).mono ?_
      rintro e w3 ⟨rfl, hb3⟩
      have hS3 := hS2.below_ hb3
      have hl := HLW.out bw w3 hS3.heap
      have c4 := beg1 (q := q0) (flags := 2) (now := 0) hS3.pull2 hE.pos hE (by omega) (by omega) HBQ.out.1
      rw [HBQ.out.2.1, HBQ.out.2.2, ← HQE.out] at c4
      clear hS2 hb3 HB2
      go_wp2_with (first | (refine wpList_load_run (t := 121) rfl rfl rfl hl ?_) | (refine wpList_load_want (t := 121) rfl rfl rfl hl ?_))
      refine c4.mono ?_
      rintro e w4 ⟨p, rfl, hS4⟩
      clear c4 hS3 hl
      have hl := HLW.out bw w4 hS4.pull2.heap
      have c := see1_no (q := q0) (side := 1) (flags := 16) (now := 1) hS4 (by omega) (by omega) (by rw [HP.out]; decide)
      rw [← HQE.out] at c
      go_wp2_with (first | (refine wpList_load_run (t := 121) rfl rfl rfl hl ?_) | (refine wpList_load_want (t := 121) rfl rfl rfl hl ?_))
      refine c.mono ?_
      rintro e w5 ⟨rfl, hS5⟩
      clear c hl hS4
      have hl := HLW.out bw w5 hS5.pull2.heap
      have c := see1_no (q := q0) (side := 1) (flags := 2) (now := 1) hS5 (by omega) (by omega) (by rw [HP.out]; decide)
      rw [← HQE.out] at c
      go_wp2_with (first | (refine wpList_load_run (t := 121) rfl rfl rfl hl ?_) | (refine wpList_load_want (t := 121) rfl rfl rfl hl ?_))
      refine c.mono ?_
      rintro e w6 ⟨rfl, hS6⟩
      clear c hl hS5
      have hl := HLW.out bw w6 hS6.pull2.heap
      have c := see1_no (q := q0) (side := 0) (flags := 16) (now := 1) hS6 (by omega) (by omega) (by rw [HP.out]; decide)
      rw [← HQE.out] at c
      go_wp2_with (first | (refine wpList_load_run (t := 121) rfl rfl rfl hl ?_) | (refine wpList_load_want (t := 121) rfl rfl rfl hl ?_))
      refine c.mono ?_
      rintro e w7 ⟨rfl, hS7⟩
      clear c hl hS6
      have hl := HLW.out bw w7 hS7.pull2.heap
      have c := see1_no (q := q0) (side := 1) (flags := 4) (now := 1) hS7 (by omega) (by omega) (by rw [HP.out]; decide)
      rw [← HQE.out] at c
      go_wp2_with (first | (refine wpList_load_run (t := 121) rfl rfl rfl hl ?_) | (refine wpList_load_want (t := 121) rfl rfl rfl hl ?_))
      refine c.mono ?_
      rintro e w8 ⟨rfl, hS8⟩
      clear c hl hS7
      have hl := HLW.out bw w8 hS8.pull2.heap
      have c := see1_yes (q := q0) (side := 0) (flags := 2) (now := 1) (ph' := ⟨1, 0⟩) (u' := 31) hS8 (by omega) (by omega) (by rw [HP.out]; decide) (by rw [HP.out]; decide)
      rw [← HQE.out] at c
      go_wp2_with (first | (refine wpList_load_run (t := 121) rfl rfl rfl hl ?_) | (refine wpList_load_want (t := 121) rfl rfl rfl hl ?_))
      refine c.mono ?_
      rintro e w9 ⟨rfl, hS9⟩
      clear c hl hS8
      have hl := HLW.out bw w9 hS9.pull2.heap
      have c := see1_yes (q := q0) (side := 1) (flags := 18) (now := 2) (ph' := ⟨2, 0⟩) (u' := 32) hS9 (by omega) (by omega) (by rw [HP.out]; decide) (by rw [HP.out]; decide)
      rw [← HQE.out] at c
      go_wp2_with (first | (refine wpList_load_run (t := 121) rfl rfl rfl hl ?_) | (refine wpList_load_want (t := 121) rfl rfl rfl hl ?_))
      refine c.mono ?_
      rintro e w10 ⟨rfl, hS10⟩
      clear c hl hS9
      have hl := HLW.out bw w10 hS10.pull2.heap
      have c := see1_no (q := q0) (side := 1) (flags := 24) (now := 2) hS10 (by omega) (by omega) (by rw [HP.out]; decide)
      rw [← HQE.out] at c
      go_wp2_with (first | (refine wpList_load_run (t := 121) rfl rfl rfl hl ?_) | (refine wpList_load_want (t := 121) rfl rfl rfl hl ?_))
      refine c.mono ?_
      rintro e w11 ⟨rfl, hS11⟩
      clear c hl hS10
      have hl := HLW.out bw w11 hS11.pull2.heap
      have c := see1_yes (q := q0) (side := 0) (flags := 16) (now := 3) (ph' := ⟨3, 0⟩) (u' := 3603) hS11 (by omega) (by omega) (by rw [HP.out]; decide) (by rw [HP.out]; decide)
      rw [← HQE.out] at c
      go_wp2_with (first | (refine wpList_load_run (t := 121) rfl rfl rfl hl ?_) | (refine wpList_load_want (t := 121) rfl rfl rfl hl ?_))
      refine c.mono ?_
      rintro e w12 ⟨rfl, hS12⟩
      clear c hl hS11
      have hl := HLW.out bw w12 hS12.pull2.heap
      have c := get1 hS12
      rw [← HQE.out] at c
      go_wp2_with (first | (refine wpList_load_run (t := 121) rfl rfl rfl hl ?_) | (refine wpList_load_want (t := 121) rfl rfl rfl hl ?_))
      refine c.mono ?_
      rintro e w13' ⟨rfl, hS13'⟩
      clear c hl hS12
      have hst := flw_storeN ⟨q0, 3, 0, 3603⟩
      have hX := (hS13'.alloc (.cells (Flw.enc ⟨q0, 3, 0, 3603⟩).toArray 126))
      obtain ⟨f1, f2, f3⟩ := flw_cells (f := ⟨q0, 3, 0, 3603⟩) hX.heap
      simp only at f1 f2 f3
      have hS13 := hX.roll3
      generalize (Flw.enc ⟨q0, 3, 0, 3603⟩).toArray = FE13 at *
      generalize hbf13 : w13'.heap.size = bf13 at *
      generalize hW13 : w13'.alloc (.cells FE13 126) = w13 at *
      have HB13 := Lib.hid (And.intro hbf13 hW13)
      clear hX hS13' hbf13 hW13
      go_wp2_with (refine wpList_store_run (t := 126) rfl rfl rfl rfl (hst _ _ rfl) (stop_ ?_))
      unfold Stop
      try rw [HB13.out.2]
      try rw [HB13.out.1]
      clear hst HB13
      -- quiet
      have hl := HLW.out bw w13 hS13.pull2.heap
      have c := see1_yes (q := q0) (side := 0) (flags := (bits .andNot .i64 (m : Int) 7)) (now := 4) (ph' := ⟨3, 0⟩) (u' := 3604) hS13 (by omega) (by omega) (by rw [HP.out]; exact see_quiet QF.out.1 QF.out.2.1 QF.out.2.2.1) (by rw [HP.out]; decide)
      rw [← HQE.out] at c
      go_wp2_with (first | (refine wpList_load_run (t := 121) rfl rfl rfl hl ?_) | (refine wpList_load_want (t := 121) rfl rfl rfl hl ?_))
      try rw [HM.out]
      refine c.mono ?_
      rintro e w14 ⟨rfl, hS14⟩
      clear c hl hS13
      have hl := HLW.out bw w14 hS14.pull2.heap
      have c := see1_no (q := q0) (side := 0) (flags := (bits .or .i64 (bits .andNot .i64 (m : Int) 7) 2)) (now := 4) hS14 (by omega) (by omega) (by rw [HP.out]; exact see_syn QF.out.2.2.2.2 QF.out.2.2.2.1)
      rw [← HQE.out] at c
      go_wp2_with (first | (refine wpList_load_run (t := 121) rfl rfl rfl hl ?_) | (refine wpList_load_want (t := 121) rfl rfl rfl hl ?_))
      try rw [HM.out]
      refine c.mono ?_
      rintro e w15 ⟨rfl, hS15⟩
      clear c hl hS14
      have hl := HLW.out bw w15 hS15.pull2.heap
      have c := see1_yes (q := q0) (side := 0) (flags := 17) (now := 5) (ph' := ⟨4, 0⟩) (u' := 65) hS15 (by omega) (by omega) (by rw [HP.out]; decide) (by rw [HP.out]; decide)
      rw [← HQE.out] at c
      go_wp2_with (first | (refine wpList_load_run (t := 121) rfl rfl rfl hl ?_) | (refine wpList_load_want (t := 121) rfl rfl rfl hl ?_))
      refine c.mono ?_
      rintro e w16 ⟨rfl, hS16⟩
      clear c hl hS15
      have hl := HLW.out bw w16 hS16.pull2.heap
      have c := see1_yes (q := q0) (side := 1) (flags := 16) (now := 6) (ph' := ⟨4, 0⟩) (u' := 66) hS16 (by omega) (by omega) (by rw [HP.out]; decide) (by rw [HP.out]; decide)
      rw [← HQE.out] at c
      go_wp2_with (first | (refine wpList_load_run (t := 121) rfl rfl rfl hl ?_) | (refine wpList_load_want (t := 121) rfl rfl rfl hl ?_))
      refine c.mono ?_
      rintro e w17 ⟨rfl, hS17⟩
      clear c hl hS16
      have hl := HLW.out bw w17 hS17.pull2.heap
      have c := see1_yes (q := q0) (side := 1) (flags := 17) (now := 7) (ph' := ⟨5, 0⟩) (u' := 67) hS17 (by omega) (by omega) (by rw [HP.out]; decide) (by rw [HP.out]; decide)
      rw [← HQE.out] at c
      go_wp2_with (first | (refine wpList_load_run (t := 121) rfl rfl rfl hl ?_) | (refine wpList_load_want (t := 121) rfl rfl rfl hl ?_))
      refine c.mono ?_
      rintro e w18 ⟨rfl, hS18⟩
      clear c hl hS17
      have hl := HLW.out bw w18 hS18.pull2.heap
      have c := get1 hS18
      rw [← HQE.out] at c
      go_wp2_with (first | (refine wpList_load_run (t := 121) rfl rfl rfl hl ?_) | (refine wpList_load_want (t := 121) rfl rfl rfl hl ?_))
      refine c.mono ?_
      rintro e w19' ⟨rfl, hS19'⟩
      clear c hl hS18
      have hst := flw_storeN ⟨q0, 5, 0, 67⟩
      have hX := (hS19'.alloc (.cells (Flw.enc ⟨q0, 5, 0, 67⟩).toArray 126))
      obtain ⟨f1, f2, f3⟩ := flw_cells (f := ⟨q0, 5, 0, 67⟩) hX.heap
      simp only at f1 f2 f3
      have hS19 := hX.roll3
      generalize (Flw.enc ⟨q0, 5, 0, 67⟩).toArray = FE19 at *
      generalize hbf19 : w19'.heap.size = bf19 at *
      generalize hW19 : w19'.alloc (.cells FE19 126) = w19 at *
      have HB19 := Lib.hid (And.intro hbf19 hW19)
      clear hX hS19' hbf19 hW19
      go_wp2_with (refine wpList_store_run (t := 126) rfl rfl rfl rfl (hst _ _ rfl) (stop_ ?_))
      unfold Stop
      try rw [HB19.out.2]
      try rw [HB19.out.1]
      clear hst HB19
      have hl := HLW.out bw w19 hS19.pull2.heap
      have c := see1_yes (q := q0) (side := 1) (flags := 16) (now := 8) (ph' := ⟨5, 0⟩) (u' := 68) hS19 (by omega) (by omega) (by rw [HP.out]; decide) (by rw [HP.out]; decide)
      rw [← HQE.out] at c
      go_wp2_with (first | (refine wpList_load_run (t := 121) rfl rfl rfl hl ?_) | (refine wpList_load_want (t := 121) rfl rfl rfl hl ?_))
      refine c.mono ?_
      rintro e w20 ⟨rfl, hS20⟩
      clear c hl hS19
      have hl := HLW.out bw w20 hS20.pull2.heap
      have c := see1_end (q := q0) (side := 0) (flags := 16) (now := 9) (ph' := ⟨5, 0⟩) hS20 (by omega) (by omega) (by rw [HP.out]; decide)
      rw [← HQE.out] at c
      go_wp2_with (first | (refine wpList_load_run (t := 121) rfl rfl rfl hl ?_) | (refine wpList_load_want (t := 121) rfl rfl rfl hl ?_))
      refine c.mono ?_
      rintro e w21 ⟨rfl, hS21⟩
      clear c hl hS20
      have c := flLen_any hS21
      rw [show (([] : List FIt).length : Int) = 0 from rfl] at c
      go_wp2_with fail
      refine c.mono ?_
      rintro e wy ⟨rfl, rfl⟩
      clear c
      have hl := HLW.out bw w21 hS21.pull2.heap
      have c := see0_no hS21 q0 (1) (16) (10) (by omega)
      rw [← HQE.out] at c
      go_wp2_with (first | (refine wpList_load_run (t := 121) rfl rfl rfl hl ?_) | (refine wpList_load_want (t := 121) rfl rfl rfl hl ?_))
      refine c.mono ?_
      rintro e w22 ⟨rfl, hS22⟩
      clear c hl hS21
      go_wp2_with fail
      go_ret
      exact ⟨rfl, hS22.below⟩
theorem shakes_any (b0 : Bool) (flags : Int) (b2 : Bool) (w : World) (hE : Et w) :
    Calls Tryd.prog 16 #[.bool b0, .int .i64 flags, .bool b2] w fun e w' => e = .returned (.bool true) ∧ Below w.heap.size w w' := by
  cases b0 <;> cases b2
  · exact shakes_at false false flags w hE 0 1 0 (.inr ⟨rfl, rfl, rfl⟩) (.inr ⟨rfl, rfl⟩)
  · exact shakes_at false true flags w hE 0 1 1 (.inr ⟨rfl, rfl, rfl⟩) (.inl ⟨rfl, rfl⟩)
  · exact shakes_at true false flags w hE 1 0 0 (.inl ⟨rfl, rfl, rfl⟩) (.inr ⟨rfl, rfl⟩)
  · exact shakes_at true true flags w hE 1 0 1 (.inl ⟨rfl, rfl, rfl⟩) (.inl ⟨rfl, rfl⟩)
end Go.Proofs.YtepaanpdjadakaaDoor
