import Derived.Test.YtepaanpdjadakaaDoorFOrdP
import Derived.Test.YtepaanpdjadakaaDoorFullW
import Derived.Test.YtepaanpdjadakaaDoorInts
import Derived.Test.YtepaanpdjadakaaDoorFref
/-! FactsOrder's walk. -/
namespace Go.Proofs.YtepaanpdjadakaaDoor
open Go Go.RowKit

theorem strC_flat_snoc (W : List ByteArray) (s : ByteArray) : W.flatMap strC ++ [.string s] = (W ++ [s]).flatMap strC := by rw [List.flatMap_append]; rfl
set_option maxRecDepth 8000 in
set_option maxHeartbeats 16000000 in
theorem forder_any (a0 : Option Addr) (len0 cap0 : Nat) (z0 : List Int) (d0 : Int) (w : World) (w0 : IsRow .i64 w a0 len0 cap0 z0) (hE : Et w) :
    Calls Tryd.prog 15 #[.slice a0 len0 cap0, .int .i64 d0] w fun e w' => e = .returned (.bool true) ∧ Below w.heap.size w w' := by
  have hlen := w0.len_le
  unfold maxLen at hlen
  have e0 : errV 0 = .nilIface := rfl
  have c1 := fNew_any 100 (Sat.start w)
  rw [show roomOf 100 = 100 by decide] at c1
  go_enter Tryd.func15, Tryd.ntmps15
  go_wp2_with fail
  refine c1.mono ?_
  rintro e w1 ⟨t, rfl, hS1⟩
  clear c1
  go_wp2_with fail
  refine (awake25_any _ (hS1.et hE.pos hE)).mono ?_
  rintro e w2 ⟨rfl, hb2⟩
  have hS2 := arr_nil (e := 9) (sz := 1) (hS1.below_ hb2)
  clear hS1 hb2
  go_wp2_with fail
  go_loopw [6, 7] (fun v i wr => ∃ (k : Nat) (R : List (Itm Fk)) (W : List ByteArray) (next : Int), k ≤ len0 ∧ k ≤ 50 ∧ W.length ≤ k ∧ (0 ≤ next ∧ next ≤ 2 * k) ∧ i = .int .i64 k ∧ Sat w.heap.size w wr (arr 9 1 v W.length (W.flatMap strC) • ftab t 100 R next • emp) ∧ Hid (OrdR R W)) (fun _ i _ => len0 - (intOf i).toNat)
  case atStart => exact ⟨0, [], [], 0, Nat.zero_le _, by omega, Nat.le_refl _, ⟨by omega, by omega⟩, rfl, hS2, Lib.hid OrdR.nil⟩
  case round =>
    clear hS2
    obtain ⟨k, R, W, next, hk, hk50, hWk, hnx, rfl, hS, HO⟩ := hrel
    obtain ⟨A1, cc1, hv1⟩ := hS.arr_form
    subst hv1
    by_cases hlt : k < len0 ∧ k < 50
    · obtain ⟨hl1, hl2⟩ := hlt
      obtain ⟨x, rfl, hxl, hxw⟩ := w0.at' hl1
      have hc := hxw _ hS.below
      have hk1 : (k : Int) < len0 := by omega
      have hk2 : (k : Int) < 50 := by omega
      obtain ⟨m, hm, hmod⟩ := mod_of (z0.getD k 0) 9 (by decide) (by decide)
      have HM := Lib.hid hmod
      clear hmod
      generalize z0.getD k 0 = zk at *
      go_wp2_with fail
      rw [HM.out]
      refine (digits_any m (by omega) _).mono ?_
      rintro e w3 ⟨rfl, hb3⟩
      have hS3 := hS.below_ hb3
      clear hS hb3
      generalize hs : (⟨#[110]⟩ : ByteArray) ++ digN m = s
      obtain ⟨q1, q2, q3, q4⟩ := ord_step (next := next) HO.out s (u := 10 + k) ⟨by omega, by omega⟩ (by omega)
      have Q := Lib.hid (And.intro q1 (And.intro q2 (And.intro q3 q4)))
      have hn1 := lrnN_le 100 R next ⟨s, adA⟩
      have hn2 := lrnN_le 100 (lrnR 100 R next ⟨s, adA⟩ (10 + k)) (lrnN 100 R next ⟨s, adA⟩) ⟨s, adB⟩
      clear q1 q2 q3 q4
      go_wp2_with fail
      refine (v4_any 1 2 3 4 _).mono ?_
      rintro e w4 ⟨rfl, hb4⟩
      have hS4 := hS3.below_ hb4
      have c2 := fLearn_any hS4.pull2 hE.pos hE HO.out.nd (by omega) s adA (10 + k)
      rw [Q.out.1, e0] at c2
      rw [show (adr4 1 2 3 4) = adA from rfl]
      generalize hR1 : lrnR 100 R next ⟨s, adA⟩ (10 + k) = R1 at *
      generalize lrnN 100 R next ⟨s, adA⟩ = n1 at *
      clear hR1 hS3 hb4
      try rw [hs]
      generalize hAA : adA.enc.toArray = AA at *
      go_wp2_with fail
      refine c2.mono ?_
      rintro e w5 ⟨rfl, hS5⟩
      clear c2 hS4
      go_wp2_with fail
      refine (v4_any 4 3 2 1 _).mono ?_
      rintro e w6 ⟨rfl, hb6⟩
      have hS6 := hS5.below_ hb6
      have c3 := fLearn_any hS6 hE.pos hE Q.out.2.1 (by omega) s adB (10 + k)
      rw [Q.out.2.2.1, e0] at c3
      rw [show (adr4 4 3 2 1) = adB from rfl]
      generalize hR2 : lrnR 100 R1 n1 ⟨s, adB⟩ (10 + k) = R2 at *
      generalize lrnN 100 R1 n1 ⟨s, adB⟩ = n2 at *
      have Q4 := Lib.hid Q.out.2.2.2
      clear hR2 hS5 hb6 Q
      generalize hBB : adB.enc.toArray = BB at *
      go_wp2_with fail
      refine c3.mono ?_
      rintro e w7 ⟨rfl, hS7⟩
      clear c3 hS6
      have hr1 : RowsAt strC w7 (.slice A1 W.length cc1) W := rows_of_arr (by unfold maxLen; omega) hS7.pull2
      have c4 := in_any W _ s w7 hr1
      clear hr1
      cases hb : inB W s with
      | true =>
        have hw : wantS W s = W := by unfold wantS; rw [hb]; rfl
        rw [hw] at Q4
        rw [hb] at c4
        clear hb hw HO
        go_wp2_with fail
        refine c4.mono ?_
        rintro e w8 ⟨rfl, hb8⟩
        have hS8 := (hS7.below_ hb8).pull2
        clear c4 hS7 hb8
        go_wp2_with fail
        go_roundw
        case rel => exact ⟨k + 1, R2, W, n2, by omega, by omega, by omega, ⟨by omega, by omega⟩, by go_num, hS8, Q4⟩
        case measure => simp [intOf]; omega
      | false =>
        have hw : wantS W s = W ++ [s] := by unfold wantS; rw [hb]; rfl
        rw [hw] at Q4
        rw [hb] at c4
        clear hb hw HO
        go_wp2_with fail
        refine c4.mono ?_
        rintro e w8 ⟨rfl, hb8⟩
        have hS8 := (hS7.below_ hb8).pull2
        have hY := hS8.alloc_ (.cells #[.string s] 9)
        obtain ⟨v6, w9, hrun, hS9⟩ := hY.append (m := 1) (news := [.string s]) (t := 102) (ty := 102) (P := Tryd.prog) (x := .slice (some ⟨w8.heap.size, 0, none⟩) 1 1) Tryd.underlying102 str_zero (by simp [Value.cells]) (by decide) reads_new rfl (by simp [Value.oneCell']) (by unfold maxLen; omega) (by omega)
        rw [strC_flat_snoc] at hS9
        obtain ⟨A6, c6, rfl⟩ := hS9.arr_form
        have HL : Hid ((W ++ [s]).length = W.length + 1) := Lib.hid (by simp)
        clear c4 hS7 hb8 hS8 hY
        go_wp2_with (at_builtin; refine wpList_append_run rfl _ _ _ rfl rfl rfl hrun ?_)
        go_roundw
        case rel => exact ⟨k + 1, R2, W ++ [s], n2, by omega, by omega, by rw [HL.out]; omega, ⟨by omega, by omega⟩, by go_num, by rw [HL.out]; exact hS9, Q4⟩
        case measure => simp [intOf]; omega
    · have hstop : (len0 : Int) ≤ k ∨ ((k : Int) < len0 ∧ (50 : Int) ≤ k) := by omega
      have hWl : W.length ≤ 50 := by omega
      have hlr := HO.out.len
      clear hlt hWk
      obtain ⟨m, hm, hmod⟩ := mod_of d0 9 (by decide) (by decide)
      have HM := Lib.hid hmod
      have HW := Lib.hid (HO.out.names adA (.inl rfl))
      have hlr2 : (R.length : Int) = 2 * (W.length : Int) := by omega
      clear hmod
      rcases hstop with h1 | ⟨h1, h2⟩
      all_goals
        go_wp2_with fail
        refine (v4_any 1 2 3 4 _).mono ?_
        rintro e w3 ⟨rfl, hb3⟩
        have hS3 := hS.below_ hb3
        have c2 := fNames_any hS3.pull2 adA
        rw [HW.out] at c2
        rw [show (adr4 1 2 3 4) = adA from rfl]
        clear hS hb3
        generalize adA.enc.toArray = AA at *
        go_wp2_with fail
        refine c2.mono ?_
        rintro e w4 ⟨v4, rfl, hS4⟩
        obtain ⟨A4, c4, rfl⟩ := hS4.arr_form
        have hr1 : RowsAt strC w4 (.slice A4 W.length c4) W := rows_of_arr (by unfold maxLen; omega) hS4
        have hr2 : RowsAt strC w4 (.slice A1 W.length cc1) W := rows_of_arr (by unfold maxLen; omega) hS4.pull3
        have c3 := plainS_any _ _ _ _ _ hr1 hr2
        rw [sameOf_refl eqD_refl] at c3
        clear hr1 hr2 c2 hS3
        go_wp2_with fail
        refine c3.mono ?_
        rintro e w5 ⟨rfl, hb5⟩
        have hS5 := hS4.drop.below_ hb5
        have c5 := fLen_any hS5
        rw [hlr2] at c5
        have h22 : ((2 * (W.length : Int)) != 2 * (W.length : Int)) = false := by simp
        clear c3 hS4 hb5
        go_wp2_with fail
        refine c5.mono ?_
        rintro e wx ⟨rfl, rfl⟩
        clear c5
        go_wp2_with fail
        rw [HM.out]
        refine (digits_any m (by omega) _).mono ?_
        rintro e w6 ⟨rfl, hb6⟩
        have hS6 := hS5.below_ hb6
        clear hS5 hb6
        generalize hg : (⟨#[110]⟩ : ByteArray) ++ digN m = g
        have c6 := fDrop_any hS6 g
        have HO3 := Lib.hid (HO.out.drop g)
        have hlr3 := HO3.out.len
        generalize hR3 : (R.filter fun x => !isN g x) = R3 at *
        have hlw : (W.filter (notB g)).length ≤ W.length := List.length_filter_le _ _
        have hval : (R.length : Int) - R3.length = 2 * ((W.length : Int) - (W.filter (notB g)).length) := by omega
        rw [hval] at c6
        clear hR3 hval
        go_wp2_with fail
        try rw [hg]
        refine c6.mono ?_
        rintro e w7 ⟨rfl, hS7⟩
        have hS8 := arr_nil (e := 9) (sz := 1) hS7.pull2
        clear c6 hS6 hS7
        go_wp2_with fail
        go_loopw [11, 12] (fun v i wr => ∃ k2 : Nat, k2 ≤ W.length ∧ i = .int .i64 k2 ∧ Sat w.heap.size w wr (arr 9 1 v ((W.take k2).filter (notB g)).length (((W.take k2).filter (notB g)).flatMap strC) • arr 9 1 (.slice A1 W.length cc1) W.length (W.flatMap strC) • ftab t 100 R3 next • emp)) (fun _ i _ => W.length - (intOf i).toNat)
        case atStart => exact ⟨0, Nat.zero_le _, rfl, by simpa using hS8⟩
        case round =>
          clear hS8
          obtain ⟨k2, hk2, rfl, hS⟩ := hrel
          obtain ⟨A3, c3, hv3⟩ := hS.arr_form
          subst hv3
          by_cases hlt : k2 < W.length
          · obtain ⟨y, hyk⟩ : ∃ y, W[k2]? = some y := ⟨_, List.getElem?_eq_getElem hlt⟩
            obtain ⟨b, rfl, _, hc⟩ := hS.pull2.arr_at (enc := strC) (fun _ => rfl) rfl hyk
            have hltz : (k2 : Int) < W.length := by omega
            have dy := hc 0 (.string y) rfl
            rw [Nat.mul_one, Nat.add_zero] at dy
            have hks := keep_snoc (notB g) hyk
            have hkl := keep_le W k2 (notB g)
            have hnb : (y.toList == g.toList) = decide (y = g) := strl _ _
            have hY := hS.alloc_ (.cells #[.string y] 9)
            obtain ⟨v6, w9, hrun, hS9⟩ := hY.append (m := 1) (news := [.string y]) (t := 102) (ty := 102) (P := Tryd.prog) (x := .slice (some ⟨wr.heap.size, 0, none⟩) 1 1) Tryd.underlying102 str_zero (by simp [Value.cells]) (by decide) reads_new rfl (by simp [Value.oneCell']) (by unfold maxLen; omega) (by omega)
            rw [strC_flat_snoc] at hS9
            obtain ⟨A6, c6, rfl⟩ := hS9.arr_form
            clear hc hyk hY
            cases hq : decide (y = g) with
            | true =>
              have hnq : notB g y = false := by unfold notB; rw [hq]; rfl
              rw [hnq, if_neg (by decide), List.append_nil] at hks
              rw [hq] at hnb
              have HK := Lib.hid hks
              clear hks hq hnq hrun hS9
              go_wp2_with fail
              go_roundw
              case rel => exact ⟨k2 + 1, by omega, by go_num, by rw [HK.out]; exact hS⟩
              case measure => simp [intOf]; omega
            | false =>
              have hnq : notB g y = true := by unfold notB; rw [hq]; rfl
              rw [hnq, if_pos rfl] at hks
              rw [hq] at hnb
              rw [← hks] at hS9
              have HL : Hid (((W.take (k2 + 1)).filter (notB g)).length = ((W.take k2).filter (notB g)).length + 1) := Lib.hid (by rw [hks]; simp)
              clear hks hq hnq hS
              go_wp2_with (at_builtin; refine wpList_append_run rfl _ _ _ rfl rfl rfl hrun ?_)
              go_roundw
              case rel => exact ⟨k2 + 1, by omega, by go_num, by rw [HL.out]; exact hS9⟩
              case measure => simp [intOf]; omega
          · obtain rfl : k2 = W.length := by omega
            have hltz : ¬ (W.length : Int) < W.length := by omega
            rw [List.take_length] at hS ⊢
            have HB := Lib.hid (HO3.out.names adB (.inr rfl))
            have HE1 := Lib.hid HO3.out.early
            have HE2 := Lib.hid HO3.out.last
            clear HO HO3
            generalize W.filter (notB g) = W3 at *
            have hr32 : (R3.length : Int) = 2 * (W3.length : Int) := by omega
            have h23 : (2 * ((W.length : Int) - W3.length) == 2 * ((W.length : Int) - W3.length)) = true := by simp
            have h24 : ((2 * (W3.length : Int)) == 2 * (W3.length : Int)) = true := by simp
            clear hlt hk2
            go_wp2_with fail
            refine (v4_any 4 3 2 1 _).mono ?_
            rintro e w8 ⟨rfl, hb8⟩
            have hS8 := hS.below_ hb8
            have c7 := fNames_any hS8.pull3 adB
            rw [HB.out] at c7
            rw [show (adr4 4 3 2 1) = adB from rfl]
            clear hS hb8
            generalize adB.enc.toArray = BB at *
            go_wp2_with fail
            refine c7.mono ?_
            rintro e w9 ⟨v9, rfl, hS9⟩
            obtain ⟨A9, c9, rfl⟩ := hS9.arr_form
            have hr1 : RowsAt strC w9 (.slice A9 W3.length c9) W3 := rows_of_arr (by unfold maxLen; omega) hS9
            have hr2 : RowsAt strC w9 (.slice A3 W3.length c3) W3 := rows_of_arr (by unfold maxLen; omega) hS9.pull3
            have c8 := plainS_any _ _ _ _ _ hr1 hr2
            rw [sameOf_refl eqD_refl] at c8
            clear hr1 hr2 c7 hS8
            go_wp2_with fail
            refine c8.mono ?_
            rintro e w10 ⟨rfl, hb10⟩
            have hS10 := hS9.drop.below_ hb10
            have c10 := fExpire_any hS10 9
            rw [HE1.out, Int.sub_self] at c10
            clear c8 hS9 hb10
            go_wp2_with fail
            refine c10.mono ?_
            rintro e w11 ⟨rfl, hS11⟩
            have c11 := fExpire_any hS11 1000
            rw [HE2.out, List.length_nil, hr32, Int.natCast_zero, Int.sub_zero] at c11
            clear c10 hS10
            go_wp2_with fail
            refine c11.mono ?_
            rintro e w12 ⟨rfl, hS12⟩
            go_wp2_with fail
            go_ret
            exact ⟨rfl, hS12.below⟩
end Go.Proofs.YtepaanpdjadakaaDoor
