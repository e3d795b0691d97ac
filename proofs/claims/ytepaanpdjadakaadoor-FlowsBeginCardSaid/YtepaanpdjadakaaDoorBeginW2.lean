import Derived.Test.YtepaanpdjadakaaDoorBeginP
/-! FlowsBegin's walk, the flags of kind 2. -/
namespace Go.Proofs.YtepaanpdjadakaaDoor
open Go Go.RowKit

set_option maxRecDepth 8000 in
set_option maxHeartbeats 32000000 in
theorem begin26_2 (n0 fl now : Int) (w : World) (hn : 0 ≤ now ∧ now ≤ 18446744073709551615) (hE : Et w) (h2 : (bits .and .i64 fl 2 != 0) = false) :
    Calls Tryd.prog 19 #[.int .i64 n0, .int .i64 fl, .int .u64 now] w fun e w' => e = .returned (.bool true) ∧ Below w.heap.size w w' := by
  obtain ⟨m, hm, hmod⟩ := mod_of n0 30 (by decide) (by decide)
  have e0 : errV 0 = .nilIface := rfl
  have e1 : errV 1 = .iface 44 (.int .i64 1) := rfl
  obtain ⟨n, hn0⟩ : ∃ n : Nat, n = m + 1 := ⟨_, rfl⟩
  have hn1 : 1 + (m : Int) = n := by omega
  have hn30 : n ≤ 30 := by omega
  have hnp : 0 < n := by omega
  clear hn0 hm
  have c1 := flNew_any n (Sat.start w)
  rw [show roomOf n = n by unfold roomOf; omega] at c1
  have hb6 : beginsF 6 fl = false := by
    have x1 : hasF fl 2 = false := h2
    unfold beginsF; rw [if_pos rfl, x1]; rfl
  have hw5 := fun W : World => way_any 5 W
  have hw2 := fun W : World => way_any 2 W
  simp only [way5] at hw5
  simp only [way2] at hw2
  obtain ⟨q5, hq5⟩ : ∃ q5, q5 = tupP 99 0 := ⟨_, rfl⟩
  obtain ⟨q2, hq2⟩ : ∃ q2, q2 = tupP 17 0 := ⟨_, rfl⟩
  have hp5 : beginsF q5.proto 2 = false := by rw [hq5]; decide
  rw [← hq5] at hw5
  rw [← hq2] at hw2
  clear hq5 hq2
  obtain ⟨Q5, hQ5⟩ : ∃ Q5, Q5 = q5.enc.toArray := ⟨_, rfl⟩
  obtain ⟨Q2, hQ2⟩ : ∃ Q2, Q2 = q2.enc.toArray := ⟨_, rfl⟩
  rw [← hQ5] at hw5
  rw [← hQ2] at hw2
  have HW5 := Lib.hid hw5
  have HW2 := Lib.hid hw2
  have HP5 := Lib.hid hp5
  have HQ5 := Lib.hid hQ5
  have HQ2 := Lib.hid hQ2
  have HB6 := Lib.hid hb6
  clear hw5 hw2 hp5 hQ5 hQ2 hb6
  go_enter Tryd.func19, Tryd.ntmps19
  go_wp2_with fail
  rw [hmod]
  clear hmod hn1
  refine c1.mono ?_
  rintro e w1 ⟨t, rfl, hS1⟩
  clear c1
  go_wp2_with fail
  refine (awake26_any _ (hS1.et hE.pos hE)).mono ?_
  rintro e w2 ⟨rfl, hb2⟩
  have hS2 := hS1.below_ hb2
  clear hS1 hb2
  have c3 := flBegin_any hS2 hE.pos hE (by omega) (tupP 6 0) fl now hn.1 hn.2
  rw [(bi_none (room := n) (p := 0) (now := 0) HB6.out).1, tupP_lit] at c3
  rw [e1] at c3
  go_wp2_with fail
  refine c3.mono ?_
  rintro e w3 ⟨p, rfl, hS3⟩
  have HB := Lib.hid (bi_none (room := n) HB6.out (p := p) (now := now)).2
  clear hS2 c3
  generalize begR n [] 0 p (tupP 6 0) fl now = R1 at *
  generalize begN n [] 0 (tupP 6 0) fl = x1 at *
  go_wp2_with fail
  refine (bare_any 1 _).mono ?_
  rintro e w4 ⟨rfl, hb4⟩
  have hS4 := hS3.below_ hb4
  clear hS3 hb4
  have cs := same_any 1 1 _ (hS4.et hE.pos hE)
  rw [show ((1:Int) == 1) = true from rfl, e1] at cs
  go_wp2_with fail
  refine (cs).mono ?_
  rintro e w5 ⟨rfl, hb5⟩
  have hS5 := hS4.below_ hb5
  clear hS4 hb5
  clear cs
  go_wp2_with fail
  refine (HW5.out _).mono ?_
  rintro e w6 ⟨rfl, hb6⟩
  have hS6 := hS5.below_ hb6
  clear hS5 hb6
  have c5 := flBegin_any hS6 hE.pos hE (by have := HB.out.nx; omega) q5 2 now hn.1 hn.2
  rw [(beg_bad (room := n) (R := R1) (next := x1) (p := 0) (now := now) HP5.out).1, ← HQ5.out] at c5
  go_wp2_with fail
  refine c5.mono ?_
  rintro e wz ⟨p5, rfl, hSz⟩
  rw [(beg_bad HP5.out).2.1, (beg_bad (p := 0) (now := 0) HP5.out).2.2] at hSz
  clear c5 hS6
  go_wp2_with fail
  refine (bare_any 1 _).mono ?_
  rintro e w7 ⟨rfl, hb7⟩
  have hS7 := hSz.below_ hb7
  clear hSz hb7
  have cs := same_any 1 1 _ (hS7.et hE.pos hE)
  rw [show ((1:Int) == 1) = true from rfl] at cs
  go_wp2_with fail
  refine (cs).mono ?_
  rintro e w8 ⟨rfl, hb8⟩
  have hS8 := hS7.below_ hb8
  clear hS7 hb8
  clear cs
  have c6 := flLen_any hS8
  rw [show (R1.length : Int) = 0 by rw [HB.out.len]; rfl] at c6
  go_wp2_with fail
  refine c6.mono ?_
  rintro e wy ⟨rfl, rfl⟩
  clear c6
  go_wp2_with fail
  go_loopw [10] (fun i wr => ∃ (k : Nat) (R : List FIt) (next : Int), k ≤ n ∧ i = .int .i64 k ∧ Sat w.heap.size w wr (fltab t n R next • emp) ∧ Hid (BI R k next)) (fun i _ => n - (intOf i).toNat)
  case atStart => exact ⟨0, R1, x1, by omega, rfl, hS8, HB⟩
  case round =>
    clear hS8 HB
    obtain ⟨k, R, next, hk, rfl, hS, HB⟩ := hrel
    by_cases hlt : k < n
    · have c2 := flBegin_any hS hE.pos hE (by have := HB.out.nx; omega) (tupP 17 k) fl now hn.1 hn.2
      rw [(HB.out.more (p := 0) (fl := fl) (now := now) hlt).1, e0, tupP_lit] at c2
      have HM := Lib.hid (fun p => (HB.out.more (p := p) (fl := fl) (now := now) hlt).2)
      clear hS
      go_wp2_with fail
      refine c2.mono ?_
      rintro e w4 ⟨p4, rfl, hS4⟩
      clear c2
      go_wp2_with fail
      go_roundw
      case rel => exact ⟨k + 1, _, _, by omega, by go_num, hS4, Lib.hid (HM.out p4)⟩
      case measure => simp [intOf]; omega
    · obtain rfl : k = n := by omega
      clear hlt hk
      have c7 := flBegin_any hS hE.pos hE (by have := HB.out.nx; omega) (tupP 17 99) fl now hn.1 hn.2
      rw [(HB.out.full (p := 0) (fl := fl) (now := now) hn30).1, tupP_lit] at c7
      clear hS
      go_wp2_with fail
      refine c7.mono ?_
      rintro e wf ⟨pf, rfl, hSf⟩
      rw [(HB.out.full hn30).2.1, (HB.out.full (p := 0) (now := 0) hn30).2.2] at hSf
      clear c7
      have c8 := flAll_any hSf
      clear hSf
      go_wp2_with fail
      refine c8.mono ?_
      rintro e wA ⟨v, rfl, hSA⟩
      clear c8
      obtain ⟨x0, hx0⟩ : ∃ x0, R[0]? = some x0 := ⟨_, List.getElem?_eq_getElem (by rw [HB.out.len]; exact hnp)⟩
      have hf0 : (flws R)[0]? = some (flwOf x0) := by unfold flws; rw [List.getElem?_map, hx0]; rfl
      have hrows : RowsAt Flw.enc wA v (flws R) := rowsF_of_arr (by rw [flws_length, HB.out.len]; unfold maxLen; omega) (by rw [flws_length]; exact hSA)
      obtain ⟨a, c, hv, hc⟩ := hrows.elem Flw.enc_length hf0
      rw [flws_length, HB.out.len] at hv
      subst hv
      have hl0 : (Instr.loadAt 121 (.pointer (some a))).run Tryd.prog wA = .ok (.agg x0.key.tup.enc.toArray) wA :=
        run_loadAt_cells Tryd.underlying121 rfl (by rw [Tup.enc_length]; kernel_rfl) (fun j u hu => by
          have hj : j < 37 := by have := (List.getElem?_eq_some_iff.1 hu).1; rwa [Tup.enc_length] at this
          have := hc wA (Below.refl _ _) j u (by rw [(flwOf x0).at0 j hj]; exact hu)
          rwa [Nat.zero_mul, Nat.zero_add] at this)
      have c9 := flBegin_any hSA.pull2 hE.pos hE (by have := HB.out.nx; omega) x0.key.tup 2 now hn.1 hn.2
      have hmem := List.mem_of_getElem? hx0
      rw [(HB.out.there (room := k) (p := 0) (now := now) hmem).1] at c9
      have HT := Lib.hid hmem
      clear hrows hc hf0 hx0 hmem hSA
      generalize x0.key.tup.enc.toArray = QX at *
      go_wp2_with (refine wpList_load_want (t := 121) rfl rfl rfl hl0 ?_)
      refine c9.mono ?_
      rintro e wg ⟨pg, rfl, hSg⟩
      clear c9 hl0
      go_wp2_with fail
      refine (HW2.out _).mono ?_
      rintro e w9 ⟨rfl, hb9⟩
      have hS9 := hSg.below_ hb9
      clear hSg hb9
      have c3 := flGet_nil q2
      rw [← HQ2.out] at c3
      go_wp2_with fail
      refine (c3 _).mono ?_
      rintro e w10 ⟨rfl, hb10⟩
      have hS10 := hS9.below_ hb10
      clear hS9 hb10
      have hst := flw_storeN zFlw
      have hX := hS10.alloc (.cells zFlw.enc.toArray 126)
      generalize zFlw.enc.toArray = Z at *
      clear c3 hS10
      go_wp2_with (refine wpList_store_run (t := 126) rfl rfl rfl rfl (hst _ _ rfl) (stop_ ?_))
      unfold Stop
      clear hst
      go_wp2_with fail
      refine (bare_any 18 _).mono ?_
      rintro e w11 ⟨rfl, hb11⟩
      have hS11 := hX.below_ hb11
      clear hX hb11
      have cs := same_any 18 18 _ (hS11.et hE.pos hE)
      rw [show ((18:Int) == 18) = true from rfl] at cs
      go_wp2_with fail
      refine (cs).mono ?_
      rintro e w12 ⟨rfl, hb12⟩
      have hS12 := hS11.below_ hb12
      clear hS11 hb12
      clear cs
      go_wp2_with fail
      refine (bare_any 19 _).mono ?_
      rintro e w13 ⟨rfl, hb13⟩
      have hS13 := hS12.below_ hb13
      clear hS12 hb13
      have cs := same_any 19 19 _ (hS13.et hE.pos hE)
      rw [show ((19:Int) == 19) = true from rfl] at cs
      go_wp2_with fail
      refine (cs).mono ?_
      rintro e w14 ⟨rfl, hb14⟩
      have hS14 := hS13.below_ hb14
      clear hS13 hb14
      clear cs
      go_wp2_with fail
      refine (HW2.out _).mono ?_
      rintro e w15 ⟨rfl, hb15⟩
      have hS15 := hS14.below_ hb15
      clear hS14 hb15
      have cn := flBegin_nil q2
      rw [← HQ2.out] at cn
      go_wp2_with fail
      refine (cn _ _ _).mono ?_
      rintro e w16 ⟨rfl, hb16⟩
      have hS16 := hS15.below_ hb16
      clear hS15 hb16
      clear cn
      go_wp2_with fail
      refine (bare_any 2 _).mono ?_
      rintro e w17 ⟨rfl, hb17⟩
      have hS17 := hS16.below_ hb17
      clear hS16 hb17
      have cs := same_any 2 2 _ (hS17.et hE.pos hE)
      rw [show ((2:Int) == 2) = true from rfl] at cs
      go_wp2_with fail
      refine (cs).mono ?_
      rintro e w18 ⟨rfl, hb18⟩
      have hS18 := hS17.below_ hb18
      clear hS17 hb18
      clear cs
      go_wp2_with fail
      refine (HW2.out _).mono ?_
      rintro e w19 ⟨rfl, hb19⟩
      have hS19 := hS18.below_ hb19
      clear hS18 hb19
      have cn := flSee_nil q2
      rw [← HQ2.out] at cn
      go_wp2_with fail
      refine (cn _ _ _ _).mono ?_
      rintro e w20 ⟨rfl, hb20⟩
      have hS20 := hS19.below_ hb20
      clear hS19 hb20
      clear cn
      go_wp2_with fail
      refine (HW2.out _).mono ?_
      rintro e w21 ⟨rfl, hb21⟩
      have hS21 := hS20.below_ hb21
      clear hS20 hb21
      have cn := flRemove_nil q2
      rw [← HQ2.out] at cn
      go_wp2_with fail
      refine (cn _).mono ?_
      rintro e w22 ⟨rfl, hb22⟩
      have hS22 := hS21.below_ hb22
      clear hS21 hb22
      clear cn
      go_wp2_with fail
      refine (flExpire_nil _ _).mono ?_
      rintro e w23 ⟨rfl, hb23⟩
      have hS23 := hS22.below_ hb23
      clear hS22 hb23
      go_wp2_with fail
      refine (flAll_nil _).mono ?_
      rintro e wv ⟨rfl, rfl⟩
      go_wp2_with fail
      refine (flLen_nil _).mono ?_
      rintro e wu ⟨rfl, rfl⟩
      go_wp2_with fail
      go_ret
      exact ⟨rfl, hS23.below⟩
end Go.Proofs.YtepaanpdjadakaaDoor
