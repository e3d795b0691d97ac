import Derived.Test.YtepaanpdjadakaaDoorDueW
import Derived.IntWalk
/-! ExpiryFull's walk. -/
namespace Go.Proofs.YtepaanpdjadakaaDoor
open Go Go.RowKit

theorem mod_of (n k : Int) (h0 : 0 < k) (h1 : k ≤ 1000000) : ∃ m : Nat, (m : Int) < k ∧ wrap64 ((IntKind.u64.wrap n).tmod k) = m := by
  have hu : 0 ≤ IntKind.u64.wrap n := by simp only [IntKind.wrap, IntKind.bits, IntKind.signed]; simp; omega
  rw [Int.tmod_eq_emod_of_nonneg hu]
  have h2 := Int.emod_nonneg (IntKind.u64.wrap n) (by omega : k ≠ 0)
  have h3 := Int.emod_lt_of_pos (IntKind.u64.wrap n) h0
  refine ⟨(IntKind.u64.wrap n % k).toNat, by omega, ?_⟩
  rw [IntWalk.wrap64_in _ (by omega)]
  omega
set_option maxRecDepth 8000 in
theorem qDue_nil (now : Int) (w : World) : Calls Tryd.prog 23 #[.pointer none, .int .u64 now] w fun e w' => e = .returned (.slice none 0 0) ∧ Below w.heap.size w w' := by
  have hst := ent_store
  have hnv : nextV [] = .tuple #[.agg (Ent.enc ⟨0, 0⟩).toArray, .bool false] := rfl
  have c1 := qNext_nil w
  rw [hnv] at c1
  clear hnv
  go_enter Tryd.func23, Tryd.ntmps23
  go_wp2_with fail
  refine wp_loop_rounds 1 ?_
  rw [rounds_succ]
  go_wp2_with fail
  refine c1.mono ?_
  rintro e w1 ⟨rfl, hb⟩
  go_wp2_with (refine wpList_store_run (t := 34) rfl rfl rfl rfl (hst ⟨0, 0⟩ _ _ rfl) ?_)
  go_ret
  exact ⟨rfl, hb.alloc hb.size _⟩
def fz (a : Int) : List Int := List.replicate 50 a
theorem fz_get {a : Int} {k : Nat} (h : k < 50) : (fz a).getD k 0 = a := by
  unfold fz; rw [List.getD_eq_getElem?_getD, List.getElem?_replicate, if_pos h]; rfl
theorem fz_has {a id : Int} {m : Nat} : hasId (entsOf (fz a) m) id = decide (0 ≤ id ∧ id < m) := by
  rw [Bool.eq_iff_iff, decide_eq_true_eq]
  unfold hasId
  rw [List.any_eq_true]
  constructor
  · rintro ⟨x, hx, e⟩
    obtain ⟨i, hi, rfl⟩ := mem_ents.1 hx
    have : (i : Int) = id := by simpa using e
    omega
  · rintro ⟨h1, h2⟩
    exact ⟨_, mem_ents.2 ⟨id.toNat, by omega, rfl⟩, by simp; omega⟩
theorem fz_full {a id : Int} {m : Nat} : pushC m (entsOf (fz a) m) id = (if 0 ≤ id ∧ id < m then 19 else 18) ∧ pushS m (entsOf (fz a) m) id a = entsOf (fz a) m := by
  unfold pushC pushS
  rw [fz_has, entsOf_length]
  by_cases h : 0 ≤ id ∧ id < m
  · simp [h]
  · simp [h]
attribute [local irreducible] wpOrd
set_option maxRecDepth 8000 in
set_option maxHeartbeats 8000000 in
theorem full_any (n0 id a : Int) (w : World) (hE : Et w) :
    Calls Tryd.prog 7 #[.int .i64 n0, .int .i64 id, .int .u64 a] w fun e w' => e = .returned (.bool true) ∧ Below w.heap.size w w' := by
  obtain ⟨m, hm, hmod⟩ := mod_of n0 50 (by decide) (by decide)
  have e0 : errV 0 = .nilIface := rfl
  have c1 := qNew_any m (Sat.start w)
  rw [show roomOf m = m by unfold roomOf; omega] at c1
  go_enter Tryd.func7, Tryd.ntmps7
  go_wp2_with fail
  rw [hmod]
  clear hmod
  refine c1.mono ?_
  rintro e w1 ⟨q, rfl, hS1⟩
  clear c1
  go_wp2_with fail
  refine (awake17_any _ (hS1.et hE.pos hE)).mono ?_
  rintro e w3 ⟨rfl, hb3⟩
  have hS3 := hS1.below_ hb3
  clear hS1 hb3
  go_wp2_with fail
  go_loopw [8] (fun i wr => ∃ k : Nat, k ≤ m ∧ i = .int .i64 k ∧ Sat w.heap.size w wr (queue q m (entsOf (fz a) k) • emp)) (fun i _ => m - (intOf i).toNat)
  case atStart => exact ⟨0, Nat.zero_le _, rfl, hS3⟩
  case round =>
    clear hS3
    obtain ⟨k, hk, rfl, hS⟩ := hrel
    by_cases hlt : k < m
    · obtain ⟨p1, p2⟩ := ents_push (room := m) (fz a) k hlt
      rw [fz_get (by omega)] at p2
      have c2 := qPush_any hS (hS.et hE.pos hE) k a
      rw [p1, p2, e0] at c2
      clear p1 p2
      go_wp2_with fail
      refine c2.mono ?_
      rintro e w4 ⟨rfl, hS4⟩
      clear c2 hS
      go_wp2_with fail
      go_roundw
      case rel => exact ⟨k + 1, by omega, by go_num, hS4⟩
      case measure => simp [intOf]; omega
    · obtain rfl : k = m := by omega
      obtain ⟨p1, p2⟩ := fz_full (a := a) (id := id) (m := k)
      obtain ⟨p3, p4⟩ := fz_full (a := a) (id := -1) (m := k)
      rw [if_neg (by omega)] at p3
      generalize entsOf (fz a) k = S at *
      have P2 := Lib.hid p2
      have P3 := Lib.hid p3
      have P4 := Lib.hid p4
      have hnv : nextV [] = .tuple #[.agg #[.int .i64 0, .int .u64 0], .bool false] := rfl
      have c2 := qNext_nil wr
      rw [hnv] at c2
      clear p2 p3 p4 hnv hlt
      go_wp2_with fail
      refine c2.mono ?_
      rintro e w4 ⟨rfl, hb4⟩
      have hS4 := (hS.below_ hb4).alloc_ (.cells #[.int .i64 0, .int .u64 0] 34)
      clear c2 hS
      go_wp2_with fail
      refine (qAt_nil _ _).mono ?_
      rintro e w5 ⟨rfl, rfl⟩
      go_wp2_with fail
      refine (bare_any _ _).mono ?_
      rintro e w6 ⟨rfl, hb6⟩
      have hS6 := (hS4.below_ hb6).alloc (.cells #[.int .i64 18, .int .i64 0, .bool false] 46)
      clear hS4 hb4
      have hst : ∀ (W : World) (z : Array Value), z.size = 3 → (Instr.storeAt 46 (.pointer (some ⟨W.heap.size, 0, none⟩)) (failV 18)).run Tryd.prog (W.alloc (.cells z 46)) = .ok () (W.alloc (.cells #[.int .i64 18, .int .i64 0, .bool false] 46)) :=
        fun W z hz => run_storeAt_new (v := failV 18) (by kernel_rfl) (by simp only [failV, Value.cells]; exact hz) (by simp [failV, Value.cells, Value.oneCell'])
      by_cases hid : 0 ≤ id ∧ id < k
      · obtain ⟨hi1, hi2⟩ := hid
        rw [if_pos ⟨hi1, hi2⟩] at p1
        have P1 := Lib.hid p1
        clear p1
        go_wp2_with (refine wpList_store_run (t := 46) rfl rfl rfl rfl (hst _ _ rfl) (stop_ ?_))
        unfold Stop
        go_wp2_with fail
        refine (bare_any _ _).mono ?_
        rintro e w7 ⟨rfl, hb7⟩
        have hS7 := hS6.below_ hb7
        have hst2 := run_storeAt_row (P := Tryd.prog) (o := 0) (ty := 46) (v := failV 19) hS7.heap (by kernel_rfl) (by simp [failV, Value.cells]) (by simp [failV, Value.cells, Value.oneCell'])
        have hS8 := hS7.setRow (cs := splice #[.int .i64 18, .int .i64 0, .bool false] 0 (failV 19).cells.toList)
        rw [splice_all (by simp [failV, Value.cells])] at hst2 hS8
        generalize w7.setRow w6.heap.size (failV 19).cells.toList.toArray = W8 at hst2 hS8
        have hS8' : Sat w.heap.size w W8 (blk w6.heap.size (.cells #[.int .i64 19, .int .i64 0, .bool false] 46) • queue q k S • emp) := hS8
        clear hS6 hS7 hst hS8
        go_wp2_with (refine wpList_store_run (t := 46) rfl rfl rfl rfl hst2 (stop_ ?_))
        unfold Stop
        have hS9 := hS8'.drew
        go_wp2_with fail
        try go_frame
        refine wp_region_ord [(0, .pure), (1, .pure), (2, .pure), (4, .quiet), (3, .acts), (5, .acts), (6, .pure), (7, .pure), (8, .pure), (9, .acts), (10, .acts), (11, .acts), (12, .pure), (13, .pure), (14, .pure), (15, .pure), (16, .pure), (17, .acts), (18, .acts), (19, .acts), (20, .pure), (21, .pure), (22, .pure), (23, .pure), (24, .pure), (25, .acts), (26, .acts), (27, .acts), (28, .pure), (29, .pure), (30, .pure), (31, .pure), (32, .acts), (33, .acts), (34, .acts), (35, .pure), (36, .pure), (37, .pure), (38, .pure), (39, .pure), (40, .pure), (41, .pure), (42, .pure), (43, .pure), (44, .pure), (45, .pure), (46, .pure), (47, .acts), (48, .pure), (49, .pure), (50, .pure), (51, .pure), (52, .pure), (53, .acts), (54, .pure), (55, .pure), (56, .pure)] (by kernel_rfl) (by kernel_rfl)
          (fun w' => Sat w.heap.size w w' (blk w6.heap.size (.cells #[.int .i64 19, .int .i64 0, .bool false] 46) • queue q k S • emp)) hS9 ?_
        iterate 3 (refine ord_pure rfl rfl rfl (fun K' hK => ?_); go_big_quiet_op; refine hK _ ?_; clear hK K')
        refine ord_load (t := 46) rfl rfl rfl (p := .pointer (some ⟨w6.heap.size, 0, none⟩)) (v := .agg #[.int .i64 19, .int .i64 0, .bool false]) rfl (fun w' hC => run_loadAt_row (cs := [.int .i64 19, .int .i64 0, .bool false]) hC.heap Tryd.underlying46 rfl (by kernel_rfl) (fun j u hu => by simpa using hu)) (fun K' hK => ?_)
        go_simp
        refine hK _ ?_
        clear hK K'
        refine ord_acts rfl rfl (fun K' hK => ?_)
        go_simp
        refine (qPush_any hS9.pull2 (hS9.et hE.pos hE) id a).mono ?_
        rintro e w10 ⟨rfl, hT10⟩
        rw [P1.out]
        rw [P2.out] at hT10
        have hS10 := hT10.pull2
        clear hT10
        refine hK _ _ (hS10) ?_
        clear hK K'
        go_simp
        refine ord_acts rfl rfl (fun K' hK => ?_)
        go_simp
        refine (same_any 19 19 _ (hS10.et hE.pos hE)).mono ?_
        rintro e w11 ⟨rfl, hb11⟩
        have hS11 := hS10.below_ hb11
        refine hK _ _ (hS11) ?_
        clear hK K'
        go_simp
        iterate 3 (refine ord_pure rfl rfl rfl (fun K' hK => ?_); go_big_quiet_op; refine hK _ ?_; clear hK K')
        refine ord_acts rfl rfl (fun K' hK => ?_)
        go_simp
        refine (qPush_any hS11.pull2 (hS11.et hE.pos hE) (-1) a).mono ?_
        rintro e w12 ⟨rfl, hT12⟩
        rw [P3.out]
        rw [P4.out] at hT12
        have hS12 := hT12.pull2
        clear hT12
        refine hK _ _ (hS12) ?_
        clear hK K'
        go_simp
        refine ord_acts rfl rfl (fun K' hK => ?_)
        go_simp
        refine (bare_any 18 _).mono ?_
        rintro e w13 ⟨rfl, hb13⟩
        have hS13 := hS12.below_ hb13
        refine hK _ _ (hS13) ?_
        clear hK K'
        go_simp
        refine ord_acts rfl rfl (fun K' hK => ?_)
        go_simp
        refine (same_any 18 18 _ (hS13.et hE.pos hE)).mono ?_
        rintro e w14 ⟨rfl, hb14⟩
        have hS14 := hS13.below_ hb14
        refine hK _ _ (hS14) ?_
        clear hK K'
        go_simp
        iterate 5 (refine ord_pure rfl rfl rfl (fun K' hK => ?_); go_big_quiet_op; refine hK _ ?_; clear hK K')
        refine ord_acts rfl rfl (fun K' hK => ?_)
        go_simp
        refine (qPush_nil _ _ _).mono ?_
        rintro e wx ⟨rfl, rfl⟩
        refine hK _ _ (hS14) ?_
        clear hK K'
        go_simp
        refine ord_acts rfl rfl (fun K' hK => ?_)
        go_simp
        refine (bare_any 2 _).mono ?_
        rintro e w15 ⟨rfl, hb15⟩
        have hS15 := hS14.below_ hb15
        refine hK _ _ (hS15) ?_
        clear hK K'
        go_simp
        refine ord_acts rfl rfl (fun K' hK => ?_)
        go_simp
        refine (same_any 2 2 _ (hS15.et hE.pos hE)).mono ?_
        rintro e w16 ⟨rfl, hb16⟩
        have hS16 := hS15.below_ hb16
        refine hK _ _ (hS16) ?_
        clear hK K'
        go_simp
        iterate 5 (refine ord_pure rfl rfl rfl (fun K' hK => ?_); go_big_quiet_op; refine hK _ ?_; clear hK K')
        refine ord_acts rfl rfl (fun K' hK => ?_)
        go_simp
        refine (qMove_nil _ _ _).mono ?_
        rintro e wx ⟨rfl, rfl⟩
        refine hK _ _ (hS16) ?_
        clear hK K'
        go_simp
        refine ord_acts rfl rfl (fun K' hK => ?_)
        go_simp
        refine (bare_any 2 _).mono ?_
        rintro e w17 ⟨rfl, hb17⟩
        have hS17 := hS16.below_ hb17
        refine hK _ _ (hS17) ?_
        clear hK K'
        go_simp
        refine ord_acts rfl rfl (fun K' hK => ?_)
        go_simp
        refine (same_any 2 2 _ (hS17.et hE.pos hE)).mono ?_
        rintro e w18 ⟨rfl, hb18⟩
        have hS18 := hS17.below_ hb18
        refine hK _ _ (hS18) ?_
        clear hK K'
        go_simp
        iterate 4 (refine ord_pure rfl rfl rfl (fun K' hK => ?_); go_big_quiet_op; refine hK _ ?_; clear hK K')
        refine ord_acts rfl rfl (fun K' hK => ?_)
        go_simp
        refine (qCancel_nil _ _).mono ?_
        rintro e wx ⟨rfl, rfl⟩
        refine hK _ _ (hS18) ?_
        clear hK K'
        go_simp
        refine ord_acts rfl rfl (fun K' hK => ?_)
        go_simp
        refine (bare_any 2 _).mono ?_
        rintro e w19 ⟨rfl, hb19⟩
        have hS19 := hS18.below_ hb19
        refine hK _ _ (hS19) ?_
        clear hK K'
        go_simp
        refine ord_acts rfl rfl (fun K' hK => ?_)
        go_simp
        refine (same_any 2 2 _ (hS19.et hE.pos hE)).mono ?_
        rintro e w20 ⟨rfl, hb20⟩
        have hS20 := hS19.below_ hb20
        refine hK _ _ (hS20) ?_
        clear hK K'
        go_simp
        iterate 12 (refine ord_pure rfl rfl rfl (fun K' hK => ?_); go_big_quiet_op; refine hK _ ?_; clear hK K')
        refine ord_acts rfl rfl (fun K' hK => ?_)
        go_simp
        refine (qDue_nil _ _).mono ?_
        rintro e w21 ⟨rfl, hb21⟩
        have hS21 := hS20.below_ hb21
        refine hK _ _ (hS21) ?_
        clear hK K'
        go_simp
        iterate 5 (refine ord_pure rfl rfl rfl (fun K' hK => ?_); go_big_quiet_op; refine hK _ ?_; clear hK K')
        refine ord_acts rfl rfl (fun K' hK => ?_)
        go_simp
        refine (qLen_nil _).mono ?_
        rintro e wx ⟨rfl, rfl⟩
        refine hK _ _ (hS21) ?_
        clear hK K'
        go_simp
        iterate 3 (refine ord_pure rfl rfl rfl (fun K' hK => ?_); go_big_quiet_op; refine hK _ ?_; clear hK K')
        refine ord_nil ?_
        go_wp2_with fail
        go_ret
        exact ⟨rfl, hS21.below⟩
      · rw [if_neg hid] at p1
        have P1 := Lib.hid p1
        clear p1
        have hS9 := hS6.drew
        by_cases hi1 : 0 ≤ id
        · have hi2 : (k : Int) ≤ id := by omega
          go_wp2_with (refine wpList_store_run (t := 46) rfl rfl rfl rfl (hst _ _ rfl) (stop_ ?_))
          unfold Stop
          go_wp2_with fail
          try go_frame
          refine wp_region_ord [(0, .pure), (1, .pure), (2, .pure), (4, .quiet), (3, .acts), (5, .acts), (6, .pure), (7, .pure), (8, .pure), (9, .acts), (10, .acts), (11, .acts), (12, .pure), (13, .pure), (14, .pure), (15, .pure), (16, .pure), (17, .acts), (18, .acts), (19, .acts), (20, .pure), (21, .pure), (22, .pure), (23, .pure), (24, .pure), (25, .acts), (26, .acts), (27, .acts), (28, .pure), (29, .pure), (30, .pure), (31, .pure), (32, .acts), (33, .acts), (34, .acts), (35, .pure), (36, .pure), (37, .pure), (38, .pure), (39, .pure), (40, .pure), (41, .pure), (42, .pure), (43, .pure), (44, .pure), (45, .pure), (46, .pure), (47, .acts), (48, .pure), (49, .pure), (50, .pure), (51, .pure), (52, .pure), (53, .acts), (54, .pure), (55, .pure), (56, .pure)] (by kernel_rfl) (by kernel_rfl)
            (fun w' => Sat w.heap.size w w' (blk w6.heap.size (.cells #[.int .i64 18, .int .i64 0, .bool false] 46) • queue q k S • emp)) hS9 ?_
          iterate 3 (refine ord_pure rfl rfl rfl (fun K' hK => ?_); go_big_quiet_op; refine hK _ ?_; clear hK K')
          refine ord_load (t := 46) rfl rfl rfl (p := .pointer (some ⟨w6.heap.size, 0, none⟩)) (v := .agg #[.int .i64 18, .int .i64 0, .bool false]) rfl (fun w' hC => run_loadAt_row (cs := [.int .i64 18, .int .i64 0, .bool false]) hC.heap Tryd.underlying46 rfl (by kernel_rfl) (fun j u hu => by simpa using hu)) (fun K' hK => ?_)
          go_simp
          refine hK _ ?_
          clear hK K'
          refine ord_acts rfl rfl (fun K' hK => ?_)
          go_simp
          refine (qPush_any hS9.pull2 (hS9.et hE.pos hE) id a).mono ?_
          rintro e w10 ⟨rfl, hT10⟩
          rw [P1.out]
          rw [P2.out] at hT10
          have hS10 := hT10.pull2
          clear hT10
          refine hK _ _ (hS10) ?_
          clear hK K'
          go_simp
          refine ord_acts rfl rfl (fun K' hK => ?_)
          go_simp
          refine (same_any 18 18 _ (hS10.et hE.pos hE)).mono ?_
          rintro e w11 ⟨rfl, hb11⟩
          have hS11 := hS10.below_ hb11
          refine hK _ _ (hS11) ?_
          clear hK K'
          go_simp
          iterate 3 (refine ord_pure rfl rfl rfl (fun K' hK => ?_); go_big_quiet_op; refine hK _ ?_; clear hK K')
          refine ord_acts rfl rfl (fun K' hK => ?_)
          go_simp
          refine (qPush_any hS11.pull2 (hS11.et hE.pos hE) (-1) a).mono ?_
          rintro e w12 ⟨rfl, hT12⟩
          rw [P3.out]
          rw [P4.out] at hT12
          have hS12 := hT12.pull2
          clear hT12
          refine hK _ _ (hS12) ?_
          clear hK K'
          go_simp
          refine ord_acts rfl rfl (fun K' hK => ?_)
          go_simp
          refine (bare_any 18 _).mono ?_
          rintro e w13 ⟨rfl, hb13⟩
          have hS13 := hS12.below_ hb13
          refine hK _ _ (hS13) ?_
          clear hK K'
          go_simp
          refine ord_acts rfl rfl (fun K' hK => ?_)
          go_simp
          refine (same_any 18 18 _ (hS13.et hE.pos hE)).mono ?_
          rintro e w14 ⟨rfl, hb14⟩
          have hS14 := hS13.below_ hb14
          refine hK _ _ (hS14) ?_
          clear hK K'
          go_simp
          iterate 5 (refine ord_pure rfl rfl rfl (fun K' hK => ?_); go_big_quiet_op; refine hK _ ?_; clear hK K')
          refine ord_acts rfl rfl (fun K' hK => ?_)
          go_simp
          refine (qPush_nil _ _ _).mono ?_
          rintro e wx ⟨rfl, rfl⟩
          refine hK _ _ (hS14) ?_
          clear hK K'
          go_simp
          refine ord_acts rfl rfl (fun K' hK => ?_)
          go_simp
          refine (bare_any 2 _).mono ?_
          rintro e w15 ⟨rfl, hb15⟩
          have hS15 := hS14.below_ hb15
          refine hK _ _ (hS15) ?_
          clear hK K'
          go_simp
          refine ord_acts rfl rfl (fun K' hK => ?_)
          go_simp
          refine (same_any 2 2 _ (hS15.et hE.pos hE)).mono ?_
          rintro e w16 ⟨rfl, hb16⟩
          have hS16 := hS15.below_ hb16
          refine hK _ _ (hS16) ?_
          clear hK K'
          go_simp
          iterate 5 (refine ord_pure rfl rfl rfl (fun K' hK => ?_); go_big_quiet_op; refine hK _ ?_; clear hK K')
          refine ord_acts rfl rfl (fun K' hK => ?_)
          go_simp
          refine (qMove_nil _ _ _).mono ?_
          rintro e wx ⟨rfl, rfl⟩
          refine hK _ _ (hS16) ?_
          clear hK K'
          go_simp
          refine ord_acts rfl rfl (fun K' hK => ?_)
          go_simp
          refine (bare_any 2 _).mono ?_
          rintro e w17 ⟨rfl, hb17⟩
          have hS17 := hS16.below_ hb17
          refine hK _ _ (hS17) ?_
          clear hK K'
          go_simp
          refine ord_acts rfl rfl (fun K' hK => ?_)
          go_simp
          refine (same_any 2 2 _ (hS17.et hE.pos hE)).mono ?_
          rintro e w18 ⟨rfl, hb18⟩
          have hS18 := hS17.below_ hb18
          refine hK _ _ (hS18) ?_
          clear hK K'
          go_simp
          iterate 4 (refine ord_pure rfl rfl rfl (fun K' hK => ?_); go_big_quiet_op; refine hK _ ?_; clear hK K')
          refine ord_acts rfl rfl (fun K' hK => ?_)
          go_simp
          refine (qCancel_nil _ _).mono ?_
          rintro e wx ⟨rfl, rfl⟩
          refine hK _ _ (hS18) ?_
          clear hK K'
          go_simp
          refine ord_acts rfl rfl (fun K' hK => ?_)
          go_simp
          refine (bare_any 2 _).mono ?_
          rintro e w19 ⟨rfl, hb19⟩
          have hS19 := hS18.below_ hb19
          refine hK _ _ (hS19) ?_
          clear hK K'
          go_simp
          refine ord_acts rfl rfl (fun K' hK => ?_)
          go_simp
          refine (same_any 2 2 _ (hS19.et hE.pos hE)).mono ?_
          rintro e w20 ⟨rfl, hb20⟩
          have hS20 := hS19.below_ hb20
          refine hK _ _ (hS20) ?_
          clear hK K'
          go_simp
          iterate 12 (refine ord_pure rfl rfl rfl (fun K' hK => ?_); go_big_quiet_op; refine hK _ ?_; clear hK K')
          refine ord_acts rfl rfl (fun K' hK => ?_)
          go_simp
          refine (qDue_nil _ _).mono ?_
          rintro e w21 ⟨rfl, hb21⟩
          have hS21 := hS20.below_ hb21
          refine hK _ _ (hS21) ?_
          clear hK K'
          go_simp
          iterate 5 (refine ord_pure rfl rfl rfl (fun K' hK => ?_); go_big_quiet_op; refine hK _ ?_; clear hK K')
          refine ord_acts rfl rfl (fun K' hK => ?_)
          go_simp
          refine (qLen_nil _).mono ?_
          rintro e wx ⟨rfl, rfl⟩
          refine hK _ _ (hS21) ?_
          clear hK K'
          go_simp
          iterate 3 (refine ord_pure rfl rfl rfl (fun K' hK => ?_); go_big_quiet_op; refine hK _ ?_; clear hK K')
          refine ord_nil ?_
          go_wp2_with fail
          go_ret
          exact ⟨rfl, hS21.below⟩
        · have hi1' : id < 0 := by omega
          go_wp2_with (refine wpList_store_run (t := 46) rfl rfl rfl rfl (hst _ _ rfl) (stop_ ?_))
          unfold Stop
          go_wp2_with fail
          try go_frame
          refine wp_region_ord [(0, .pure), (1, .pure), (2, .pure), (4, .quiet), (3, .acts), (5, .acts), (6, .pure), (7, .pure), (8, .pure), (9, .acts), (10, .acts), (11, .acts), (12, .pure), (13, .pure), (14, .pure), (15, .pure), (16, .pure), (17, .acts), (18, .acts), (19, .acts), (20, .pure), (21, .pure), (22, .pure), (23, .pure), (24, .pure), (25, .acts), (26, .acts), (27, .acts), (28, .pure), (29, .pure), (30, .pure), (31, .pure), (32, .acts), (33, .acts), (34, .acts), (35, .pure), (36, .pure), (37, .pure), (38, .pure), (39, .pure), (40, .pure), (41, .pure), (42, .pure), (43, .pure), (44, .pure), (45, .pure), (46, .pure), (47, .acts), (48, .pure), (49, .pure), (50, .pure), (51, .pure), (52, .pure), (53, .acts), (54, .pure), (55, .pure), (56, .pure)] (by kernel_rfl) (by kernel_rfl)
            (fun w' => Sat w.heap.size w w' (blk w6.heap.size (.cells #[.int .i64 18, .int .i64 0, .bool false] 46) • queue q k S • emp)) hS9 ?_
          iterate 3 (refine ord_pure rfl rfl rfl (fun K' hK => ?_); go_big_quiet_op; refine hK _ ?_; clear hK K')
          refine ord_load (t := 46) rfl rfl rfl (p := .pointer (some ⟨w6.heap.size, 0, none⟩)) (v := .agg #[.int .i64 18, .int .i64 0, .bool false]) rfl (fun w' hC => run_loadAt_row (cs := [.int .i64 18, .int .i64 0, .bool false]) hC.heap Tryd.underlying46 rfl (by kernel_rfl) (fun j u hu => by simpa using hu)) (fun K' hK => ?_)
          go_simp
          refine hK _ ?_
          clear hK K'
          refine ord_acts rfl rfl (fun K' hK => ?_)
          go_simp
          refine (qPush_any hS9.pull2 (hS9.et hE.pos hE) id a).mono ?_
          rintro e w10 ⟨rfl, hT10⟩
          rw [P1.out]
          rw [P2.out] at hT10
          have hS10 := hT10.pull2
          clear hT10
          refine hK _ _ (hS10) ?_
          clear hK K'
          go_simp
          refine ord_acts rfl rfl (fun K' hK => ?_)
          go_simp
          refine (same_any 18 18 _ (hS10.et hE.pos hE)).mono ?_
          rintro e w11 ⟨rfl, hb11⟩
          have hS11 := hS10.below_ hb11
          refine hK _ _ (hS11) ?_
          clear hK K'
          go_simp
          iterate 3 (refine ord_pure rfl rfl rfl (fun K' hK => ?_); go_big_quiet_op; refine hK _ ?_; clear hK K')
          refine ord_acts rfl rfl (fun K' hK => ?_)
          go_simp
          refine (qPush_any hS11.pull2 (hS11.et hE.pos hE) (-1) a).mono ?_
          rintro e w12 ⟨rfl, hT12⟩
          rw [P3.out]
          rw [P4.out] at hT12
          have hS12 := hT12.pull2
          clear hT12
          refine hK _ _ (hS12) ?_
          clear hK K'
          go_simp
          refine ord_acts rfl rfl (fun K' hK => ?_)
          go_simp
          refine (bare_any 18 _).mono ?_
          rintro e w13 ⟨rfl, hb13⟩
          have hS13 := hS12.below_ hb13
          refine hK _ _ (hS13) ?_
          clear hK K'
          go_simp
          refine ord_acts rfl rfl (fun K' hK => ?_)
          go_simp
          refine (same_any 18 18 _ (hS13.et hE.pos hE)).mono ?_
          rintro e w14 ⟨rfl, hb14⟩
          have hS14 := hS13.below_ hb14
          refine hK _ _ (hS14) ?_
          clear hK K'
          go_simp
          iterate 5 (refine ord_pure rfl rfl rfl (fun K' hK => ?_); go_big_quiet_op; refine hK _ ?_; clear hK K')
          refine ord_acts rfl rfl (fun K' hK => ?_)
          go_simp
          refine (qPush_nil _ _ _).mono ?_
          rintro e wx ⟨rfl, rfl⟩
          refine hK _ _ (hS14) ?_
          clear hK K'
          go_simp
          refine ord_acts rfl rfl (fun K' hK => ?_)
          go_simp
          refine (bare_any 2 _).mono ?_
          rintro e w15 ⟨rfl, hb15⟩
          have hS15 := hS14.below_ hb15
          refine hK _ _ (hS15) ?_
          clear hK K'
          go_simp
          refine ord_acts rfl rfl (fun K' hK => ?_)
          go_simp
          refine (same_any 2 2 _ (hS15.et hE.pos hE)).mono ?_
          rintro e w16 ⟨rfl, hb16⟩
          have hS16 := hS15.below_ hb16
          refine hK _ _ (hS16) ?_
          clear hK K'
          go_simp
          iterate 5 (refine ord_pure rfl rfl rfl (fun K' hK => ?_); go_big_quiet_op; refine hK _ ?_; clear hK K')
          refine ord_acts rfl rfl (fun K' hK => ?_)
          go_simp
          refine (qMove_nil _ _ _).mono ?_
          rintro e wx ⟨rfl, rfl⟩
          refine hK _ _ (hS16) ?_
          clear hK K'
          go_simp
          refine ord_acts rfl rfl (fun K' hK => ?_)
          go_simp
          refine (bare_any 2 _).mono ?_
          rintro e w17 ⟨rfl, hb17⟩
          have hS17 := hS16.below_ hb17
          refine hK _ _ (hS17) ?_
          clear hK K'
          go_simp
          refine ord_acts rfl rfl (fun K' hK => ?_)
          go_simp
          refine (same_any 2 2 _ (hS17.et hE.pos hE)).mono ?_
          rintro e w18 ⟨rfl, hb18⟩
          have hS18 := hS17.below_ hb18
          refine hK _ _ (hS18) ?_
          clear hK K'
          go_simp
          iterate 4 (refine ord_pure rfl rfl rfl (fun K' hK => ?_); go_big_quiet_op; refine hK _ ?_; clear hK K')
          refine ord_acts rfl rfl (fun K' hK => ?_)
          go_simp
          refine (qCancel_nil _ _).mono ?_
          rintro e wx ⟨rfl, rfl⟩
          refine hK _ _ (hS18) ?_
          clear hK K'
          go_simp
          refine ord_acts rfl rfl (fun K' hK => ?_)
          go_simp
          refine (bare_any 2 _).mono ?_
          rintro e w19 ⟨rfl, hb19⟩
          have hS19 := hS18.below_ hb19
          refine hK _ _ (hS19) ?_
          clear hK K'
          go_simp
          refine ord_acts rfl rfl (fun K' hK => ?_)
          go_simp
          refine (same_any 2 2 _ (hS19.et hE.pos hE)).mono ?_
          rintro e w20 ⟨rfl, hb20⟩
          have hS20 := hS19.below_ hb20
          refine hK _ _ (hS20) ?_
          clear hK K'
          go_simp
          iterate 12 (refine ord_pure rfl rfl rfl (fun K' hK => ?_); go_big_quiet_op; refine hK _ ?_; clear hK K')
          refine ord_acts rfl rfl (fun K' hK => ?_)
          go_simp
          refine (qDue_nil _ _).mono ?_
          rintro e w21 ⟨rfl, hb21⟩
          have hS21 := hS20.below_ hb21
          refine hK _ _ (hS21) ?_
          clear hK K'
          go_simp
          iterate 5 (refine ord_pure rfl rfl rfl (fun K' hK => ?_); go_big_quiet_op; refine hK _ ?_; clear hK K')
          refine ord_acts rfl rfl (fun K' hK => ?_)
          go_simp
          refine (qLen_nil _).mono ?_
          rintro e wx ⟨rfl, rfl⟩
          refine hK _ _ (hS21) ?_
          clear hK K'
          go_simp
          iterate 3 (refine ord_pure rfl rfl rfl (fun K' hK => ?_); go_big_quiet_op; refine hK _ ?_; clear hK K')
          refine ord_nil ?_
          go_wp2_with fail
          go_ret
          exact ⟨rfl, hS21.below⟩
end Go.Proofs.YtepaanpdjadakaaDoor
