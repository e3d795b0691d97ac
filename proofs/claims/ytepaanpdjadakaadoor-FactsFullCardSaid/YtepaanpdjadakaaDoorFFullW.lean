import Derived.Test.YtepaanpdjadakaaDoorFFullP
import Derived.Test.YtepaanpdjadakaaDoorFullW
/-! FactsFull's walk. -/
namespace Go.Proofs.YtepaanpdjadakaaDoor
open Go Go.RowKit

theorem zAdr_litF : zAdr.enc.toArray = #[.bool false, .int .u8 0, .int .u8 0, .int .u8 0, .int .u8 0, .int .u8 0, .int .u8 0, .int .u8 0, .int .u8 0, .int .u8 0, .int .u8 0, .int .u8 0, .int .u8 0, .int .u8 0, .int .u8 0, .int .u8 0, .int .u8 0] := rfl
theorem fac_td {n c : Nat} (h : c = (n + 6) / 7) : ((n : Int) + 6).tdiv 7 = c := by
  rw [Int.tdiv_eq_ediv_of_nonneg (by omega)]
  omega
theorem u8_in (k : Nat) (h : k < 256) : IntKind.u8.wrap (k : Int) = k := by
  simp [IntKind.wrap, IntKind.bits, IntKind.signed]; omega
theorem mod7 (k : Nat) : (k : Int) % 7 = ((k % 7 : Nat) : Int) := by omega
set_option maxRecDepth 8000 in
set_option maxHeartbeats 16000000 in
theorem ffull_any (n0 k0 until_ : Int) (w : World) (hE : Et w) :
    Calls Tryd.prog 14 #[.int .i64 n0, .int .i64 k0, .int .u64 until_] w fun e w' => e = .returned (.bool true) ∧ Below w.heap.size w w' := by
  obtain ⟨m, hm, hmod⟩ := mod_of n0 40 (by decide) (by decide)
  have e0 : errV 0 = .nilIface := rfl
  obtain ⟨n, hn⟩ : ∃ n : Nat, n = m + 1 := ⟨_, rfl⟩
  have hn1 : 1 + (m : Int) = n := by omega
  have hn40 : n ≤ 40 := by omega
  have hnp : 0 < n := by omega
  clear hn hm
  have c1 := fNew_any n (Sat.start w)
  rw [show roomOf n = n by unfold roomOf; omega] at c1
  go_enter Tryd.func14, Tryd.ntmps14
  go_wp2_with fail
  rw [hmod]
  clear hmod hn1
  refine c1.mono ?_
  rintro e w1 ⟨t, rfl, hS1⟩
  clear c1
  go_wp2_with fail
  refine (awake25_any _ (hS1.et hE.pos hE)).mono ?_
  rintro e w3 ⟨rfl, hb3⟩
  have hS3 := hS1.below_ hb3
  clear hS1 hb3
  go_wp2_with fail
  go_loopw [8] (fun i wr => ∃ k : Nat, k ≤ n ∧ i = .int .i64 k ∧ Sat w.heap.size w wr (ftab t n (facR k) k • emp)) (fun i _ => n - (intOf i).toNat)
  case atStart => exact ⟨0, Nat.zero_le _, rfl, hS3⟩
  case round =>
    clear hS3
    obtain ⟨k, hk, rfl, hS⟩ := hrel
    by_cases hlt : k < n
    · obtain ⟨p1, p2, p3⟩ := fac_add hlt
      have P := Lib.hid (And.intro p1 (And.intro p2 p3))
      have hltz : (k : Int) < n := by omega
      have H7 := Lib.hid (mod7 k)
      have H8 := Lib.hid (u8_in k (by omega))
      clear p1 p2 p3
      go_wp2_with fail
      rw [H7.out]
      refine (digits_any (k % 7) (by omega) _).mono ?_
      rintro e w4 ⟨rfl, hb4⟩
      have hS4 := hS.below_ hb4
      clear hS hb4
      go_wp2_with fail
      try rw [H8.out]
      refine (v4_any 1 1 1 k _).mono ?_
      rintro e w5 ⟨rfl, hb5⟩
      have hS5 := hS4.below_ hb5
      have c2 := fLearn_any hS5 hE.pos hE (facR_KN k) (by omega) (nameI (k % 7)) (adr4 1 1 1 k) 5
      rw [show (⟨nameI (k % 7), adr4 1 1 1 k⟩ : Fk) = keyI k from rfl, P.out.1, P.out.2.1, P.out.2.2, e0] at c2
      unfold nameI at c2
      clear hS4 hb5
      generalize (adr4 1 1 1 k).enc.toArray = AE at *
      go_wp2_with fail
      refine c2.mono ?_
      rintro e w6 ⟨rfl, hS6⟩
      clear c2 hS5
      go_wp2_with fail
      go_roundw
      case rel => exact ⟨k + 1, by omega, by go_num, hS6⟩
      case measure => simp [intOf]; omega
    · obtain rfl : k = n := by omega
      obtain ⟨m2, hm2, hmod2⟩ := mod_of k0 k (by omega) (by omega)
      have hltz : ¬ (k : Int) < k := by omega
      clear hlt hk
      obtain ⟨p1, p2, p3⟩ := fac_no k until_
      obtain ⟨s1, s2, s3, s4⟩ := fac_again (n := k) (k := m2) (by omega) (by omega) until_
      have hkn2 := (facR_KN k).add k k (keyI m2) until_
      have P := Lib.hid (And.intro p1 (And.intro p2 p3))
      have S := Lib.hid (And.intro s1 (And.intro s2 (And.intro s3 s4)))
      have HM := Lib.hid hmod2
      have H7 := Lib.hid (mod7 m2)
      have H8 := Lib.hid (u8_in m2 (by omega))
      have c2 := fAll_any hS
      clear p1 p2 p3 s1 s2 s3 s4 hmod2
      go_wp2_with fail
      refine c2.mono ?_
      rintro e w4 ⟨v4, rfl, hS4⟩
      obtain ⟨A4, c4, rfl⟩ := hS4.arr_form
      clear c2 hS
      have c3 := fLearn_any hS4.pull2 hE.pos hE (facR_KN k) (by omega) ⟨#[101, 108, 115, 101]⟩ zAdr until_
      rw [show (⟨⟨#[101, 108, 115, 101]⟩, zAdr⟩ : Fk) = keyE from rfl, P.out.1, P.out.2.1, P.out.2.2, zAdr_litF] at c3
      go_wp2_with fail
      rw [HM.out]
      refine c3.mono ?_
      rintro e w5 ⟨rfl, hS5⟩
      clear c3 hS4
      have c4' := fAll_any hS5
      go_wp2_with fail
      refine c4'.mono ?_
      rintro e w6 ⟨v6, rfl, hS6⟩
      obtain ⟨A6, c6, rfl⟩ := hS6.arr_form
      clear c4' hS5
      have hfl : (fcts (facR k)).length = k := by rw [fcts_length, facR_length]
      rw [show (facR k).length = (fcts (facR k)).length from (fcts_length _).symm] at hS6
      have hr1 : RowsAt Fct.enc w6 (.slice A6 (fcts (facR k)).length c6) (fcts (facR k)) := rows_of_arr (by rw [hfl]; unfold maxLen; omega) hS6
      have hr2 : RowsAt Fct.enc w6 (.slice A4 (fcts (facR k)).length c4) (fcts (facR k)) := rows_of_arr (by rw [hfl]; unfold maxLen; omega) hS6.pull3
      have c5 := plainF_any _ _ _ _ _ hr1 hr2
      rw [sameOf_refl eqD_refl] at c5
      rw [show (fcts (facR k)).length = (facR k).length from fcts_length _] at c5
      clear hr1 hr2
      go_wp2_with fail
      refine c5.mono ?_
      rintro e w7 ⟨rfl, hb7⟩
      have hS7 := ((hS6.drop).below_ hb7).pull2.drop
      clear c5 hS6 hb7 hfl
      go_wp2_with fail
      rw [H7.out]
      refine (digits_any (m2 % 7) (by omega) _).mono ?_
      rintro e w8 ⟨rfl, hb8⟩
      have hS8 := hS7.below_ hb8
      clear hS7 hb8
      go_wp2_with fail
      try rw [H8.out]
      refine (v4_any 1 1 1 m2 _).mono ?_
      rintro e w9 ⟨rfl, hb9⟩
      have hS9 := hS8.below_ hb9
      have c6 := fLearn_any hS9 hE.pos hE (facR_KN k) (by omega) (nameI (m2 % 7)) (adr4 1 1 1 m2) until_
      rw [show (⟨nameI (m2 % 7), adr4 1 1 1 m2⟩ : Fk) = keyI m2 from rfl, S.out.1, S.out.2.1, e0] at c6
      unfold nameI at c6
      obtain ⟨R2, hR2⟩ : ∃ R2, lrnR k (facR k) k (keyI m2) until_ = R2 := ⟨_, rfl⟩
      rw [hR2] at c6 S
      clear hS8 hb9 hR2
      generalize (adr4 1 1 1 m2).enc.toArray = AE at *
      go_wp2_with fail
      refine c6.mono ?_
      rintro e w10 ⟨rfl, hS10⟩
      clear c6 hS9
      go_wp2_with fail
      refine (bare_any 18 _).mono ?_
      rintro e w11 ⟨rfl, hb11⟩
      have hS11 := hS10.below_ hb11
      have c7 := same_any 18 18 _ (hS11.et hE.pos hE)
      rw [show ((18 : Int) == 18) = true from rfl] at c7
      clear hS10 hb11
      go_wp2_with fail
      refine c7.mono ?_
      rintro e w12 ⟨rfl, hb12⟩
      have hS12 := hS11.below_ hb12
      have c8 := fLen_any hS12
      rw [S.out.2.2.1] at c8
      clear c7 hS11 hb12
      go_wp2_with fail
      refine c8.mono ?_
      rintro e wx ⟨rfl, rfl⟩
      have c9 := fDrop_any hS12 ⟨#[110, 48]⟩
      obtain ⟨c, hc⟩ : ∃ c, c = (k + 6) / 7 := ⟨_, rfl⟩
      have hcc : (R2.length : Int) - (R2.filter fun x => !isN ⟨#[110, 48]⟩ x).length = c := by
        have h1 := S.out.2.2.1
        have h2 := S.out.2.2.2
        omega
      have htd := fac_td hc
      have htd2 : ((k : Int) + 6) / 7 = c := by omega
      rw [hcc] at c9
      clear c8
      have hkk : ((k : Int) == k) = true := by simp
      have hcq : ((c : Int) == c) = true := by simp
      clear hcc hc
      go_wp2_with fail
      refine c9.mono ?_
      rintro e w13 ⟨rfl, hS13⟩
      have n1 := fLearn_nil ⟨#[97]⟩ zAdr 1
      rw [zAdr_litF] at n1
      clear c9 hS12
      go_wp2_with fail
      refine (n1 _).mono ?_
      rintro e w14 ⟨rfl, hb14⟩
      have hS14 := hS13.below_ hb14
      clear n1 hS13 hb14
      go_wp2_with fail
      refine (bare_any 2 _).mono ?_
      rintro e w15 ⟨rfl, hb15⟩
      have hS15 := hS14.below_ hb15
      have c10 := same_any 2 2 _ (hS15.et hE.pos hE)
      rw [show ((2 : Int) == 2) = true from rfl] at c10
      clear hS14 hb15
      go_wp2_with fail
      refine c10.mono ?_
      rintro e w16 ⟨rfl, hb16⟩
      have hS16 := hS15.below_ hb16
      have n2 := fNames_nil zAdr
      rw [zAdr_litF] at n2
      clear c10 hS15 hb16
      go_wp2_with fail
      refine (n2 _).mono ?_
      rintro e w17 ⟨rfl, hb17⟩
      have hS17 := hS16.below_ hb17
      clear n2 hS16 hb17
      go_wp2_with fail
      refine (fExpire_nil 9 _).mono ?_
      rintro e w18 ⟨rfl, hb18⟩
      have hS18 := hS17.below_ hb18
      clear hS17 hb18
      go_wp2_with fail
      refine (fDrop_nil ⟨#[97]⟩ _).mono ?_
      rintro e w19 ⟨rfl, hb19⟩
      have hS19 := hS18.below_ hb19
      clear hS18 hb19
      go_wp2_with fail
      refine (fAll_nil _).mono ?_
      rintro e wy ⟨rfl, rfl⟩
      go_wp2_with fail
      refine (fLen_nil _).mono ?_
      rintro e wz ⟨rfl, rfl⟩
      go_wp2_with fail
      go_ret
      exact ⟨rfl, hS19.below⟩
end Go.Proofs.YtepaanpdjadakaaDoor
