import Derived.Test.YtepaanpdjadakaaDoorPendA
import Derived.Test.YtepaanpdjadakaaDoorFullW
import Derived.Test.YtepaanpdjadakaaDoorSeq
import Derived.Deep.Cut
/-! PendingFull's walk. -/
namespace Go.Proofs.YtepaanpdjadakaaDoor
open Go Go.RowKit

def fullR (k : Nat) : List (Itm Qry) := (List.range k).map fun (i : Nat) => ⟨qid i, i, 9⟩
theorem fullR_length (k : Nat) : (fullR k).length = k := by simp [fullR]
theorem fullR_any (k : Nat) (j : Int) : (fullR k).any (isQ (qid j)) = decide (0 ≤ j ∧ j < k) := by
  rw [Bool.eq_iff_iff, decide_eq_true_eq, any_key]
  unfold fullR
  rw [List.map_map, List.mem_map]
  constructor
  · rintro ⟨i, hi, e⟩
    have := qid_inj.1 e
    have := List.mem_range.1 hi
    omega
  · rintro ⟨h1, h2⟩
    exact ⟨j.toNat, List.mem_range.2 (by omega), by simp only [Function.comp]; rw [qid_inj]; omega⟩
theorem fullR_succ (k : Nat) : fullR (k + 1) = fullR k ++ [⟨qid k, k, 9⟩] := by simp [fullR, List.range_succ]
theorem full_add {n k : Nat} (h : k < n) : addC n (fullR k) (qid k) = 0 ∧ addR n (fullR k) k (qid k) 9 = fullR (k + 1) ∧ addN n (fullR k) k (qid k) = (k + 1 : Nat) := by
  have ha : (fullR k).any (isQ (qid k)) = false := by rw [fullR_any]; simp
  unfold addC addR addN
  rw [ha, fullR_length, fullR_succ]
  simp only [Bool.false_eq_true, if_false]
  rw [if_neg (by omega), if_neg (by omega), if_neg (by omega)]
  exact ⟨rfl, rfl, by omega⟩
theorem full_no {n : Nat} : addC n (fullR n) (qid n) = 18 ∧ addR n (fullR n) n (qid n) 9 = fullR n ∧ addN n (fullR n) n (qid n) = n := by
  have ha : (fullR n).any (isQ (qid n)) = false := by rw [fullR_any]; simp
  unfold addC addR addN
  rw [ha, fullR_length]
  simp
theorem range_one : ∀ {n k : Nat}, k < n → (List.range n).filter (fun i => decide (i = k)) = [k] := by
  intro n
  induction n with
  | zero => intro k h; omega
  | succ n ih =>
    intro k h
    rw [List.range_succ, List.filter_append]
    by_cases e : n = k
    · subst e
      have : (List.range n).filter (fun i => decide (i = n)) = [] := by
        rw [List.filter_eq_nil_iff]
        intro a ha
        have := List.mem_range.1 ha
        simp; omega
      rw [this]; simp
    · rw [ih (by omega)]; simp [e]
theorem full_again {n k : Nat} (h : k < n) : addC n (fullR n) (qid k) = 0 ∧ addN n (fullR n) n (qid k) = n ∧ (addR n (fullR n) n (qid k) 20).length = n ∧ (addR n (fullR n) n (qid k) 20).filter (fun x => !late 9 x) = [⟨qid k, k, 20⟩] := by
  have ha : (fullR n).any (isQ (qid k)) = true := by rw [fullR_any]; simp; omega
  unfold addC addR addN
  rw [ha]
  refine ⟨rfl, rfl, by simp [setKey, fullR_length], ?_⟩
  simp only [if_true]
  unfold setKey fullR
  rw [List.map_map, List.filter_map]
  have : (List.range n).filter ((fun x => !late 9 x) ∘ ((fun x : Itm Qry => if x.key = qid k then { x with due := 20 } else x) ∘ fun (i : Nat) => (⟨qid i, i, 9⟩ : Itm Qry))) = (List.range n).filter (fun i => decide (i = k)) := by
    congr 1
    funext i
    simp only [Function.comp]
    by_cases e : i = k
    · subst e; simp [late]
    · have : ¬ qid (i : Int) = qid k := by rw [qid_inj]; omega
      simp [this, late, e]
  rw [this, range_one h]
  simp
attribute [local irreducible] wpOrd
set_option maxRecDepth 8000 in
set_option maxHeartbeats 16000000 in
theorem full23_any (n0 k0 : Int) (w : World) (hE : Et w) :
    Calls Tryd.prog 11 #[.int .i64 n0, .int .i64 k0] w fun e w' => e = .returned (.bool true) ∧ Below w.heap.size w w' := by
  obtain ⟨m, hm, hmod⟩ := mod_of n0 40 (by decide) (by decide)
  have e0 : errV 0 = .nilIface := rfl
  obtain ⟨n, hn⟩ : ∃ n : Nat, n = m + 1 := ⟨_, rfl⟩
  have hn1 : 1 + (m : Int) = n := by omega
  have hn40 : n ≤ 40 := by omega
  have hnp : 0 < n := by omega
  clear hn hm
  have c1 := pNew_any n (Sat.start w)
  rw [show roomOf n = n by unfold roomOf; omega] at c1
  go_enter Tryd.func11, Tryd.ntmps11
  go_wp2_with fail
  rw [hmod]
  clear hmod hn1
  refine c1.mono ?_
  rintro e w1 ⟨t, rfl, hS1⟩
  clear c1
  go_wp2_with fail
  refine (awake23_any _ (hS1.et hE.pos hE)).mono ?_
  rintro e w3 ⟨rfl, hb3⟩
  have hS3 := hS1.below_ hb3
  clear hS1 hb3
  go_wp2_with fail
  go_loopw [6] (fun i wr => ∃ k : Nat, k ≤ n ∧ i = .int .i64 k ∧ Sat w.heap.size w wr (ptab t n (fullR k) k • emp) ∧ Hid (KN (fullR k))) (fun i _ => n - (intOf i).toNat)
  case atStart => exact ⟨0, Nat.zero_le _, rfl, hS3, Lib.hid KN.nil⟩
  case round =>
    clear hS3
    obtain ⟨k, hk, rfl, hS, HK⟩ := hrel
    by_cases hlt : k < n
    · obtain ⟨p1, p2, p3⟩ := full_add hlt
      have hkn := HK.out.add n k (qid k) 9
      rw [p2] at hkn
      have c2 := pAdd_any hS hE.pos hE HK.out (by omega) (qid k) 9
      rw [p1, p2, p3, e0] at c2
      have HKN := Lib.hid hkn
      have hbt := qid_built k
      clear p1 p2 p3 hkn hS
      go_wp2_with (refine wpList_build_want rfl rfl rfl hbt ?_)
      refine c2.mono ?_
      rintro e w4 ⟨rfl, hS4⟩
      clear c2
      go_wp2_with fail
      go_roundw
      case rel => exact ⟨k + 1, by omega, by go_num, hS4, HKN⟩
      case measure => simp [intOf]; omega
    · obtain rfl : k = n := by omega
      obtain ⟨m2, hm2, hmod2⟩ := mod_of k0 k (by omega) (by omega)
      clear hlt hk
      obtain ⟨p1, p2, p3⟩ := full_no (n := k)
      obtain ⟨s1, s2, s3, s4⟩ := full_again (n := k) (k := m2) (by omega)
      have hkn2 := HK.out.add k k (qid m2) 20
      have hany : ([⟨qid m2, m2, 20⟩] : List (Itm Qry)).any (isQ (qid m2)) = true := by simp [isQ]
      have hst : ∀ (W : World) (z : Array Value), z.size = 40 → (Instr.storeAt 67 (.pointer (some ⟨W.heap.size, 0, none⟩)) (.agg #[.bool false, .int .u8 0, .int .u8 0, .int .u8 0, .int .u8 0, .int .u8 0, .int .u8 0, .int .u8 0, .int .u8 0, .int .u8 0, .int .u8 0, .int .u8 0, .int .u8 0, .int .u8 0, .int .u8 0, .int .u8 0, .int .u8 0, .bool false, .int .u8 0, .int .u8 0, .int .u8 0, .int .u8 0, .int .u8 0, .int .u8 0, .int .u8 0, .int .u8 0, .int .u8 0, .int .u8 0, .int .u8 0, .int .u8 0, .int .u8 0, .int .u8 0, .int .u8 0, .int .u8 0, .int .i64 0, .int .i64 k, .bool false, .string ⟨#[]⟩, .int .i64 0, .int .i64 0])).run Tryd.prog (W.alloc (.cells z 67)) = .ok () (W.alloc (.cells (qid k).enc.toArray 67)) := qry_store (qid k)
      have hX := hS.alloc (.cells (qid k).enc.toArray 67)
      have hl1 := qry_load hX
      have c2 := pAdd_any hX.pull2 hE.pos hE HK.out (by omega) (qid k) 9
      rw [p1, p2, p3] at c2
      have S1 := Lib.hid s1
      have S2 := Lib.hid s2
      have S3 := Lib.hid s3
      have S4 := Lib.hid s4
      have HKN2 := Lib.hid hkn2
      have HANY := Lib.hid hany
      have hkm : ((k : Int) - 1 == (k : Int) - 1) = true := by simp
      clear p1 p2 p3 s1 s2 s3 s4 hkn2 hany hX hS hkm
      have n1 := pAdd_nil (qid k)
      have n2 := pTake_nil (qid k)
      have n3 := pHas_nil (qid k)
      have HQL : Hid ((qid k).enc.toArray.toList.length = 40) := Lib.hid (by simp [Qry.enc_length])
      generalize (qid k).enc.toArray = Qk at *
      have hbm := qid_built m2
      go_wp2_with (refine wpList_store_run (t := 67) rfl rfl rfl rfl (hst _ _ rfl) (stop_ ?_))
      unfold Stop
      go_upto_region 13 with (fail)
      clear hst hl1
      have hC0 : (wr.alloc (.cells Qk 67)).heap[wr.heap.size]? = some (.cells Qk 67) := heap_alloc_new _ _
      refine wp_region_seq [(0, .pure), (1, .quiet), (2, .acts), (3, .acts), (4, .acts), (5, .pure), (6, .pure), (7, .pure), (8, .acts), (9, .acts), (10, .pure), (11, .pure), (12, .pure), (13, .pure), (14, .acts), (15, .pure), (16, .pure), (17, .pure), (18, .pure), (19, .pure), (20, .pure), (21, .acts), (22, .pure), (23, .pure), (24, .pure), (25, .pure), (26, .pure), (27, .acts), (28, .acts), (29, .pure), (30, .pure), (31, .pure), (32, .quiet), (33, .acts), (34, .acts), (35, .acts), (36, .pure), (37, .pure), (38, .pure), (39, .quiet), (40, .acts), (41, .pure), (42, .pure), (43, .pure), (44, .pure), (45, .quiet), (46, .acts), (47, .pure), (48, .pure), (49, .pure), (50, .pure), (51, .acts), (52, .pure), (53, .pure), (54, .pure), (55, .pure), (56, .acts), (57, .pure), (58, .pure), (59, .pure), (60, .pure), (61, .acts), (62, .pure), (63, .pure), (64, .pure), (65, .pure), (66, .pure), (67, .acts), (68, .pure), (69, .pure), (70, .pure)] (by kernel_rfl)
        (fun w' => w'.heap[wr.heap.size]? = some (.cells Qk 67)) hC0 ?_
      iterate 1 (refine ord_pure rfl rfl rfl (fun K' hK => ?_); go_big_quiet_op; refine hK _ ?_; clear hK K')
      refine ord_load (t := 67) rfl rfl rfl (p := .pointer (some ⟨wr.heap.size, 0, none⟩)) (v := .agg Qk) rfl (fun w' hC => run_loadAt_row (cs := Qk.toList) hC Tryd.underlying67 rfl (by rw [HQL.out]; kernel_rfl) (fun j u hu => by simpa using hu)) (fun K' hK => ?_)
      go_simp
      refine hK _ ?_
      clear hK K'
      refine ord_acts rfl rfl (fun K' hK => ?_)
      go_simp
      refine (c2).mono ?_
      rintro e w4 ⟨rfl, hS4⟩
      refine hK _ _ (hS4.pull2.heap) ?_
      clear hK K'
      go_simp
      refine ord_acts rfl rfl (fun K' hK => ?_)
      go_simp
      refine (bare_any 18 _).mono ?_
      rintro e w5 ⟨rfl, hb5⟩
      have hS5 := hS4.below_ hb5
      refine hK _ _ (hS5.pull2.heap) ?_
      clear hK K'
      go_simp
      refine ord_acts rfl rfl (fun K' hK => ?_)
      go_simp
      refine (same_any 18 18 _ (hS5.et hE.pos hE)).mono ?_
      rintro e w6 ⟨rfl, hb6⟩
      have hS6 := hS5.below_ hb6
      refine hK _ _ (hS6.pull2.heap) ?_
      clear hK K'
      go_simp
      iterate 3 (refine ord_pure rfl rfl rfl (fun K' hK => ?_); go_big_quiet_op; refine hK _ ?_; clear hK K')
      refine ord_acts rfl rfl (fun K' hK => ?_)
      refine wp_build1_run rfl (u := .int .i64 m2) rfl hbm ?_
      refine hK _ _ hS6.pull2.heap ?_
      clear hK K'
      go_simp
      have c3 := pAdd_any hS6 hE.pos hE HK.out (by omega) (qid m2) 20
      rw [S1.out, S2.out, e0] at c3
      refine ord_acts rfl rfl (fun K' hK => ?_)
      go_simp
      refine (c3).mono ?_
      rintro e w7 ⟨rfl, hS7⟩
      refine hK _ _ (hS7.pull2.heap) ?_
      clear hK K'
      go_simp
      iterate 4 (refine ord_pure rfl rfl rfl (fun K' hK => ?_); go_big_quiet_op; refine hK _ ?_; clear hK K')
      have c4 := pExpire_any hS7 9
      rw [S3.out, S4.out] at c4
      rw [show (([⟨qid m2, m2, 20⟩] : List (Itm Qry)).length : Int) = 1 from rfl] at c4
      refine ord_acts rfl rfl (fun K' hK => ?_)
      go_simp
      refine (c4).mono ?_
      rintro e w8 ⟨rfl, hS8⟩
      refine hK _ _ (hS8.pull2.heap) ?_
      clear hK K'
      go_simp
      iterate 6 (refine ord_pure rfl rfl rfl (fun K' hK => ?_); go_big_quiet_op; refine hK _ ?_; clear hK K')
      have c5 := pLen_any hS8
      rw [show (([⟨qid m2, m2, 20⟩] : List (Itm Qry)).length : Int) = 1 from rfl] at c5
      refine ord_acts rfl rfl (fun K' hK => ?_)
      go_simp
      refine (c5).mono ?_
      rintro e wx ⟨rfl, rfl⟩
      refine hK _ _ (hS8.pull2.heap) ?_
      clear hK K'
      go_simp
      iterate 5 (refine ord_pure rfl rfl rfl (fun K' hK => ?_); go_big_quiet_op; refine hK _ ?_; clear hK K')
      refine ord_acts rfl rfl (fun K' hK => ?_)
      refine wp_build1_run rfl (u := .int .i64 m2) rfl hbm ?_
      refine hK _ _ hS8.pull2.heap ?_
      clear hK K'
      go_simp
      have c6 := pHas_any hS8 (qid m2)
      rw [HANY.out] at c6
      refine ord_acts rfl rfl (fun K' hK => ?_)
      go_simp
      refine (c6).mono ?_
      rintro e w9 ⟨rfl, hS9⟩
      refine hK _ _ (hS9.pull2.heap) ?_
      clear hK K'
      go_simp
      iterate 3 (refine ord_pure rfl rfl rfl (fun K' hK => ?_); go_big_quiet_op; refine hK _ ?_; clear hK K')
      refine ord_load (t := 67) rfl rfl rfl (p := .pointer (some ⟨wr.heap.size, 0, none⟩)) (v := .agg Qk) rfl (fun w' hC => run_loadAt_row (cs := Qk.toList) hC Tryd.underlying67 rfl (by rw [HQL.out]; kernel_rfl) (fun j u hu => by simpa using hu)) (fun K' hK => ?_)
      go_simp
      refine hK _ ?_
      clear hK K'
      refine ord_acts rfl rfl (fun K' hK => ?_)
      go_simp
      refine (n1 _ _).mono ?_
      rintro e w10 ⟨rfl, hb10⟩
      have hS10 := hS9.below_ hb10
      refine hK _ _ (hS10.pull2.heap) ?_
      clear hK K'
      go_simp
      refine ord_acts rfl rfl (fun K' hK => ?_)
      go_simp
      refine (bare_any 2 _).mono ?_
      rintro e w11 ⟨rfl, hb11⟩
      have hS11 := hS10.below_ hb11
      refine hK _ _ (hS11.pull2.heap) ?_
      clear hK K'
      go_simp
      refine ord_acts rfl rfl (fun K' hK => ?_)
      go_simp
      refine (same_any 2 2 _ (hS11.et hE.pos hE)).mono ?_
      rintro e w12 ⟨rfl, hb12⟩
      have hS12 := hS11.below_ hb12
      refine hK _ _ (hS12.pull2.heap) ?_
      clear hK K'
      go_simp
      iterate 3 (refine ord_pure rfl rfl rfl (fun K' hK => ?_); go_big_quiet_op; refine hK _ ?_; clear hK K')
      refine ord_load (t := 67) rfl rfl rfl (p := .pointer (some ⟨wr.heap.size, 0, none⟩)) (v := .agg Qk) rfl (fun w' hC => run_loadAt_row (cs := Qk.toList) hC Tryd.underlying67 rfl (by rw [HQL.out]; kernel_rfl) (fun j u hu => by simpa using hu)) (fun K' hK => ?_)
      go_simp
      refine hK _ ?_
      clear hK K'
      refine ord_acts rfl rfl (fun K' hK => ?_)
      go_simp
      refine (n2 _).mono ?_
      rintro e w13 ⟨rfl, hb13⟩
      have hS13 := hS12.below_ hb13
      refine hK _ _ (hS13.pull2.heap) ?_
      clear hK K'
      go_simp
      iterate 4 (refine ord_pure rfl rfl rfl (fun K' hK => ?_); go_big_quiet_op; refine hK _ ?_; clear hK K')
      refine ord_load (t := 67) rfl rfl rfl (p := .pointer (some ⟨wr.heap.size, 0, none⟩)) (v := .agg Qk) rfl (fun w' hC => run_loadAt_row (cs := Qk.toList) hC Tryd.underlying67 rfl (by rw [HQL.out]; kernel_rfl) (fun j u hu => by simpa using hu)) (fun K' hK => ?_)
      go_simp
      refine hK _ ?_
      clear hK K'
      refine ord_acts rfl rfl (fun K' hK => ?_)
      go_simp
      refine (n3 _).mono ?_
      rintro e w14 ⟨rfl, hb14⟩
      have hS14 := hS13.below_ hb14
      refine hK _ _ (hS14.pull2.heap) ?_
      clear hK K'
      go_simp
      iterate 4 (refine ord_pure rfl rfl rfl (fun K' hK => ?_); go_big_quiet_op; refine hK _ ?_; clear hK K')
      refine ord_acts rfl rfl (fun K' hK => ?_)
      go_simp
      refine (pExpire_nil _ _).mono ?_
      rintro e w15 ⟨rfl, hb15⟩
      have hS15 := hS14.below_ hb15
      refine hK _ _ (hS15.pull2.heap) ?_
      clear hK K'
      go_simp
      iterate 4 (refine ord_pure rfl rfl rfl (fun K' hK => ?_); go_big_quiet_op; refine hK _ ?_; clear hK K')
      refine ord_acts rfl rfl (fun K' hK => ?_)
      go_simp
      refine (pKeep_nil _ _ _ _).mono ?_
      rintro e w16 ⟨rfl, hb16⟩
      have hS16 := hS15.below_ hb16
      refine hK _ _ (hS16.pull2.heap) ?_
      clear hK K'
      go_simp
      iterate 4 (refine ord_pure rfl rfl rfl (fun K' hK => ?_); go_big_quiet_op; refine hK _ ?_; clear hK K')
      refine ord_acts rfl rfl (fun K' hK => ?_)
      go_simp
      refine (pAll_nil _).mono ?_
      rintro e wy ⟨rfl, rfl⟩
      refine hK _ _ (hS16.pull2.heap) ?_
      clear hK K'
      go_simp
      iterate 5 (refine ord_pure rfl rfl rfl (fun K' hK => ?_); go_big_quiet_op; refine hK _ ?_; clear hK K')
      refine ord_acts rfl rfl (fun K' hK => ?_)
      go_simp
      refine (pLen_nil _).mono ?_
      rintro e wz ⟨rfl, rfl⟩
      have HF := Lib.hid hS16
      refine hK _ _ (hS16.pull2.heap) ?_
      clear hK K'
      go_simp
      iterate 3 (refine ord_pure rfl rfl rfl (fun K' hK => ?_); go_big_quiet_op; refine hK _ ?_; clear hK K')
      refine ord_nil ?_
      go_wp2_with fail
      go_ret
      exact ⟨rfl, HF.out.below⟩
end Go.Proofs.YtepaanpdjadakaaDoor
