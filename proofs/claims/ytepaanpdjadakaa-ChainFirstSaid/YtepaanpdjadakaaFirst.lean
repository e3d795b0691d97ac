import Derived.Test.YtepaanpdjadakaaFirstP
import Derived.Test.YtepaanpdjadakaaBuild2
import Derived.Lib.MinMax
/-! ChainFirst's walk. -/
namespace Go.Proofs.Ytepaanpdjadakaa
open Go Go.RowKit

theorem foreign_set (c : Int) : splice (foreignOf 1).enc.toArray 2 [.int .i64 c] = (foreignOf c).enc.toArray := by
  unfold splice; rfl
theorem mn_min (a b : Int) : mn a b = min a b := by unfold mn; omega
theorem cls_of (t : Int) : ∃ c : Int, wrap64 ((IntKind.u64.wrap t).tmod 65536) = c := ⟨_, rfl⟩

set_option maxRecDepth 8000 in
set_option maxHeartbeats 4000000 in
theorem first_any (ttl other c0 : Int) (w : World) :
    Calls Try.prog 9 #[.int .u32 ttl, .int .u32 other, .int .i64 c0] w fun e w' => e = .returned (.bool true) ∧ Below w.heap.size w w' := by
  have h1 := cname_any sA sB 50
  have h2 := cname_any sA sC 60
  have h3 := a_any sB 1 ttl
  have h4 := a_any sB 1 other
  have h5 := a_any sC 2 5
  have h6 := a_any sB 3 other
  have hfo := first_follow ttl other
  unfold firstL at hfo
  generalize cnameOf sA sB 50 = R1 at *
  generalize cnameOf sA sC 60 = R2 at *
  generalize aOf sB 1 ttl = R3 at *
  generalize aOf sB 1 other = R4 at *
  generalize aOf sC 2 5 = R5 at *
  generalize aOf sB 3 other = R6 at *
  have hf := a_any sB 9 7
  have hfe : (aOf sB 9 7) = foreignOf 1 := rfl
  rw [hfe] at hf
  have hset := foreign_set
  generalize foreignOf 1 = R0 at *
  have hst : ∀ (r : Rec) (W : World) (z : Array Value), z.size = 23 → (Instr.storeAt 54 (.pointer (some ⟨W.heap.size, 0, none⟩)) (.agg r.enc.toArray)).run Try.prog (W.alloc (.cells z 54)) = .ok () (W.alloc (.cells r.enc.toArray 54)) :=
    fun r W z hz => run_storeAt_new (v := .agg r.enc.toArray) (by simp only [Value.cells, List.size_toArray, r.enc_length]; kernel_rfl) (by simp only [Value.cells, List.size_toArray, r.enc_length]; exact hz) (by simpa [Value.cells] using r.enc_one)
  have hs2 : ∀ (c : Int) (W : World), (Instr.storeAt 3 (.pointer (some ⟨W.heap.size, 2, none⟩)) (.int .i64 c)).run Try.prog (W.alloc (.cells R0.enc.toArray 54)) = .ok () (W.alloc (.cells (foreignOf c).enc.toArray 54)) := by
    intro c W
    rw [run_storeAt_row (heap_alloc_new W _) (by kernel_rfl) (by simp [Value.cells, R0.enc_length]) (by simp [Value.cells, Value.oneCell']), setRow_alloc]
    rw [← hset c]; rfl
  unfold sA sB sC at *
  go_enter Try.func9, Try.ntmps9
  go_wp2_with fail
  refine (hf _).mono ?_
  rintro e w1 ⟨rfl, hb1⟩
  obtain ⟨c, hc⟩ := cls_of c0
  rw [hc]
  clear hc
  go_wp2_with (first | (refine wpList_store_run rfl rfl rfl rfl (hst R0 _ _ rfl) ?_) | (refine wpList_store_run rfl rfl rfl rfl (hs2 c _) ?_))

  have hS1 := ((Sat.start w).below_ hb1).alloc (.cells (foreignOf c).enc.toArray 54)
  generalize hRF : foreignOf c = RF at *
  go_frame
  refine wp_region_ord [(2, .pure), (4, .pure), (7, .pure), (9, .quiet), (0, .acts), (1, .acts), (3, .acts), (5, .acts), (6, .acts), (8, .acts), (10, .acts), (11, .pure)] (by kernel_rfl) (by kernel_rfl)
    (fun w' => Sat w.heap.size w w' (blk w1.heap.size (.cells RF.enc.toArray 54) • emp)) hS1.drew ?_
  iterate 3 (refine ord_pure rfl rfl rfl (fun K' hK => ?_); go_big_quiet_op; refine hK _ ?_; clear hK K')
  refine ord_load (t := 54) rfl rfl rfl (p := .pointer (some ⟨w1.heap.size, 0, none⟩)) (v := .agg RF.enc.toArray) rfl (fun w' hC => run_loadAt_row hC.heap Try.underlying54 rfl (by rw [RF.enc_length]; kernel_rfl) (fun j u hu => by simpa using hu)) (fun K' hK => ?_)
  go_simp
  refine hK _ ?_
  clear hK K'
  refine ord_acts rfl rfl (fun K' hK => ?_)
  go_simp
  refine (h1 _).mono ?_
  rintro e w2 ⟨rfl, hb⟩
  have hS2 := (hS1.drew).below_ hb
  refine hK _ _ hS2 ?_
  clear hK K' hb
  go_simp
  refine ord_acts rfl rfl (fun K' hK => ?_)
  go_simp
  refine (h2 _).mono ?_
  rintro e w3 ⟨rfl, hb⟩
  have hS3 := (hS2).below_ hb
  refine hK _ _ hS3 ?_
  clear hK K' hb
  go_simp
  refine ord_acts rfl rfl (fun K' hK => ?_)
  go_simp
  refine (h3 _).mono ?_
  rintro e w4 ⟨rfl, hb⟩
  have hS4 := (hS3).below_ hb
  refine hK _ _ hS4 ?_
  clear hK K' hb
  go_simp
  refine ord_acts rfl rfl (fun K' hK => ?_)
  go_simp
  refine (h4 _).mono ?_
  rintro e w5 ⟨rfl, hb⟩
  have hS5 := (hS4).below_ hb
  refine hK _ _ hS5 ?_
  clear hK K' hb
  go_simp
  refine ord_acts rfl rfl (fun K' hK => ?_)
  go_simp
  refine (h5 _).mono ?_
  rintro e w6 ⟨rfl, hb⟩
  have hS6 := (hS5).below_ hb
  refine hK _ _ hS6 ?_
  clear hK K' hb
  go_simp
  refine ord_acts rfl rfl (fun K' hK => ?_)
  go_simp
  refine (h6 _).mono ?_
  rintro e w7 ⟨rfl, hb⟩
  have hS7 := (hS6).below_ hb
  refine hK _ _ hS7 ?_
  clear hK K' hb
  go_simp
  refine ord_acts rfl rfl (fun K' hK => ?_)
  have hcs : ([.agg R1.enc.toArray, .agg R2.enc.toArray, .agg R3.enc.toArray, .agg R4.enc.toArray, .agg R5.enc.toArray, .agg R6.enc.toArray, .agg RF.enc.toArray] : List Value).flatMap (fun v => v.cells.toList) = [R1, R2, R3, R4, R5, R6, RF].flatMap Rec.enc := by simp [Value.cells]
  refine wp_buildSlice_row (t := 36) rfl [.agg R1.enc.toArray, .agg R2.enc.toArray, .agg R3.enc.toArray, .agg R4.enc.toArray, .agg R5.enc.toArray, .agg R6.enc.toArray, .agg RF.enc.toArray] rfl (by simp [Act.eval]) Try.underlying36 record_zero (by simp [Value.cells, Rec.enc_length]) (by decide) (by decide) ?_
  rw [hcs]
  have hra := recs_new [R1, R2, R3, R4, R5, R6, RF] w7 7 (by simp)
  have hfo1 := hfo c
  rw [hRF] at hfo1
  generalize ([R1, R2, R3, R4, R5, R6, RF].flatMap Rec.enc).toArray = C0 at *
  generalize hL0 : [R1, R2, R3, R4, R5, R6, RF] = L0 at *
  have hS8 := (hS7.alloc_ (.cells C0 54)).drop.emp_
  refine hK _ _ (hS7.alloc_ _) ?_
  clear hK K' hcs
  go_simp
  iterate 1 (refine ord_pure rfl rfl rfl (fun K' hK => ?_); go_big_quiet_op; refine hK _ ?_; clear hK K')
  refine ord_nil ?_
  have hLl : L0.length = 7 := by rw [← hL0]; rfl
  have hLl2 : L0.length ≤ 4096 := by omega
  clear hS1 hS2 hS3 hS4 hS5 hS6 hS7 hL0 hRF h1 h2 h3 h4 h5 h6 hf hset hst hs2 hfo hfe
  rw [hLl] at hra
  clear hLl
  go_wp2_with fail
  refine (follow_any ⟨_, _, _, _, _, _, _, _, _⟩ L0 _ _ hra hLl2).mono ?_
  rintro e w8 ⟨v1, v2, rfl, hF⟩
  rw [hfo1] at hF
  have hFl : (firstF ttl other c).length ≤ 3 := by unfold firstF; cases c == 1 <;> simp
  have f1 : FndsAt w8 v1 (firstF ttl other c) := ⟨hF.arr_reads, by omega⟩
  have f2 : NamesAt w8 v2 [⟨#[97]⟩, ⟨#[98]⟩] := ⟨by simpa using hF.pull2.arr_reads, by simp⟩
  have hr8 := hra.below hF.below
  have hS9 := hS8.below_ hF.below
  clear hF hra hS8
  have g1 := v4_any 8 8 8 1
  have g3 := v4_any 8 8 8 3
  have g9 := v4_any 8 8 8 9
  have hFF : firstF ttl other c = [⟨v4 8 8 8 1, mn 50 ttl⟩, ⟨v4 8 8 8 3, mn 50 other⟩] ++ (if c == 1 then [⟨v4 8 8 8 9, 7⟩] else []) := rfl
  rw [mn_min, mn_min] at hFF
  generalize v4 8 8 8 1 = a1 at *
  generalize v4 8 8 8 3 = a3 at *
  generalize v4 8 8 8 9 = a9 at *
  generalize hFG : firstF ttl other c = FF at *
  have HFF := Lib.hid hFF
  have HFG := Lib.hid hFG
  clear hFF hFG
  go_wp2_with fail
  refine (g1 _).mono ?_
  rintro e w9 ⟨rfl, hb9⟩
  have b1 := found_built a1
  have b3 := found_built a3
  go_wp2_with (first | (refine wpList_build2_run rfl rfl rfl rfl (b1 _) ?_) | (refine wpList_build2_run rfl rfl rfl rfl (b3 _) ?_))
  refine (g3 _).mono ?_
  rintro e w10 ⟨rfl, hb10⟩
  have hS11 := (hS9.below_ hb9).below_ hb10
  have hr10 := (hr8.below hb9).below hb10
  have f1' := (f1.below hb9).below hb10
  have f2' := (f2.below hb9).below hb10
  clear hr8 f1 f2 hS9
  have hwc : ([.agg (Fnd.enc ⟨a1, min 50 ttl⟩).toArray, .agg (Fnd.enc ⟨a3, min 50 other⟩).toArray] : List Value).flatMap (fun v => v.cells.toList) = [⟨a1, min 50 ttl⟩, ⟨a3, min 50 other⟩].flatMap Fnd.enc := by simp [Value.cells]
  have hSw := (Sat.start w10).alloc (.cells ([⟨a1, min 50 ttl⟩, ⟨a3, min 50 other⟩].flatMap Fnd.enc).toArray 49)
  have hSa := Sat.arr_shut (sz := 18) (n := 2) (cap := 2) (Nat.le_refl _) (by decide) (by simp [Fnd.enc_length]) (xs := [⟨a1, min 50 ttl⟩, ⟨a3, min 50 other⟩].flatMap Fnd.enc) (by rw [List.take_of_length_le (by simp [Fnd.enc_length])]) hSw
  clear hSw
  generalize hWW : w10.alloc (.cells ([⟨a1, min 50 ttl⟩, ⟨a3, min 50 other⟩].flatMap Fnd.enc).toArray 49) = W at *
  have HWW := Lib.hid hWW
  clear hWW
  have hn := none_follow
  unfold sA at hn
  have hra0 : ∀ w, RecsAt w (.slice none 0 0) [] := fun w => ⟨.inl ⟨0, rfl, rfl, rfl⟩, by simp⟩
  go_wp2_with (refine wpList_build2_run rfl rfl rfl rfl (b3 _) (stop_ ?_))
  unfold Stop
  go_simp
  refine wpList_buildSlice_row (t := 39) rfl rfl [.agg (Fnd.enc ⟨a1, min 50 ttl⟩).toArray, .agg (Fnd.enc ⟨a3, min 50 other⟩).toArray] rfl (by simp [Act.eval]) Try.underlying39 found_zero2 (by simp [Value.cells, Fnd.enc_length]) (by decide) (by decide) ?_
  rw [hwc, HWW.out]
  clear hwc b1 b3 g1 g3
  by_cases hc : c = 1
  · have hcb : (c == 1) = true := by simpa using hc
    have b9 := found_built a9
    have hFF := HFF.out
    rw [if_pos hcb] at hFF
    have HF2 := Lib.hid hFF
    clear hFF hc HFF HFG
    go_wp2_with fail
    refine (g9 _).mono ?_
    rintro e w11 ⟨rfl, hb11⟩
    have hS12 := (hSa.below_ hb11).alloc_ (.cells (Fnd.enc ⟨a9, 7⟩).toArray 49)
    obtain ⟨v5, w12, hrun, hS13⟩ := hS12.append (m := 1) (news := Fnd.enc ⟨a9, 7⟩) (t := 39) (ty := 39) (P := Try.prog) (x := .slice (some ⟨w11.heap.size, 0, none⟩) 1 1) Try.underlying39 found_zero (by simp [Value.cells, Fnd.enc_length]) (by decide) reads_new (by rw [Fnd.enc_length]) (Fnd.enc_one _) (by unfold maxLen; omega) (by omega)
    go_wp2_with (first | (refine wpList_build2_run rfl rfl rfl rfl (b9 7) ?_) | (refine wpList_buildSlice_one (v := .agg (Fnd.enc ⟨a9, 7⟩).toArray) rfl rfl rfl Try.underlying39 found_zero2 (by simp [Value.cells, Fnd.enc_length]) (by decide) (by decide) ?_) | (at_builtin; refine wpList_append_run rfl _ _ _ rfl rfl rfl hrun (stop_ ?_)))
    have f5 : FndsAt w12 v5 FF := ⟨by rw [HF2.out]; simpa using hS13.arr_reads, by omega⟩
    have hr12 := hr10.below hS13.below
    have f3 := f1'.below hS13.below
    have f4 := f2'.below hS13.below
    have hS14 := hS11.below_ hS13.below
    clear hS13 hS12 hSa hr10 f1' f2' hS11 hrun b9
    unfold Stop
    go_wp2_with fail
    refine (follow_any ⟨_, _, _, _, _, _, _, _, _⟩ [] _ _ (hra0 _) (by simp)).mono ?_
    rintro e w13 ⟨v6, v7, rfl, hF⟩
    rw [hn] at hF
    obtain ⟨A6, c6, rfl⟩ := hF.arr_form
    have f7 : NamesAt w13 v7 [⟨#[97]⟩] := ⟨by simpa using hF.pull2.arr_reads, by simp⟩
    have f3' := f3.below hF.below
    have f4' := f4.below hF.below
    have f5' := f5.below hF.below
    have hS15 := hS14.below_ hF.below
    clear hF f3 f4 f5 hS14 hr12
    go_wp2_with fail
    refine (awake_any _).mono ?_
    rintro e w14 ⟨rfl, hb14⟩
    go_wp2_with fail
    refine (plainF_any _ _ _ _ _ (f3'.below hb14) (f5'.below hb14)).mono ?_
    rintro e w15 ⟨rfl, hb15⟩
    rw [sameOf_refl (fun x => by simp [eqF])]
    have k4 := (f4'.below hb14).below hb15
    have k7 := (f7.below hb14).below hb15
    have hS16 := (hS15.below_ hb14).below_ hb15
    clear f3' f4' f5' f7 hS15 hb14 hb15
    have hn2 := names_new [⟨#[97]⟩, ⟨#[98]⟩] w15 2 (by simp)
    have hbn : Below w15.heap.size w15 (w15.alloc (.cells ([⟨#[97]⟩, ⟨#[98]⟩].map Value.string).toArray 9)) := (Below.refl _ _).alloc (Nat.le_refl _) _
    go_wp2_with fail
    refine (plainS_any [⟨#[97]⟩, ⟨#[98]⟩] [⟨#[97]⟩, ⟨#[98]⟩] v2 _ _ (k4.below hbn) hn2).mono ?_
    rintro e w16 ⟨rfl, hb16⟩
    rw [sameOf_refl (fun x => by simp [eqS])]
    have k7' := (k7.below hbn).below hb16
    have hS17 := (hS16.below_ hbn).below_ hb16
    clear k4 k7 hb16 hbn hS16 hn2
    have hn3 := names_new [⟨#[97]⟩] w16 1 (by simp)
    have hbn : Below w16.heap.size w16 (w16.alloc (.cells ([⟨#[97]⟩].map Value.string).toArray 9)) := (Below.refl _ _).alloc (Nat.le_refl _) _
    go_wp2_with fail
    refine (plainS_any [⟨#[97]⟩] [⟨#[97]⟩] v7 _ _ (k7'.below hbn) hn3).mono ?_
    rintro e w17 ⟨rfl, hb17⟩
    rw [sameOf_refl (fun x => by simp [eqS])]
    have hS18 := (hS17.below_ hbn).below_ hb17
    go_wp2_with fail
    go_ret
    exact ⟨rfl, hS18.below⟩
  · have hcb : (c == 1) = false := by simpa using hc
    have hFF := HFF.out
    rw [if_neg (by rw [hcb]; simp), List.append_nil] at hFF
    have HF2 := Lib.hid hFF
    clear hFF hc HFF HFG
    have f5 : FndsAt W (.slice (some ⟨w10.heap.size, 0, none⟩) 2 2) FF := ⟨by rw [HF2.out]; exact hSa.arr_reads, by omega⟩
    have f3 := f1'.below hSa.below
    have f4 := f2'.below hSa.below
    have hS14 := hS11.below_ hSa.below
    clear hSa hr10 f1' f2' hS11
    go_wp2_with fail
    refine (follow_any ⟨_, _, _, _, _, _, _, _, _⟩ [] _ _ (hra0 _) (by simp)).mono ?_
    rintro e w13 ⟨v6, v7, rfl, hF⟩
    rw [hn] at hF
    obtain ⟨A6, c6, rfl⟩ := hF.arr_form
    have f7 : NamesAt w13 v7 [⟨#[97]⟩] := ⟨by simpa using hF.pull2.arr_reads, by simp⟩
    have f3' := f3.below hF.below
    have f4' := f4.below hF.below
    have f5' := f5.below hF.below
    have hS15 := hS14.below_ hF.below
    clear hF f3 f4 f5 hS14
    go_wp2_with fail
    refine (awake_any _).mono ?_
    rintro e w14 ⟨rfl, hb14⟩
    go_wp2_with fail
    refine (plainF_any _ _ _ _ _ (f3'.below hb14) (f5'.below hb14)).mono ?_
    rintro e w15 ⟨rfl, hb15⟩
    rw [sameOf_refl (fun x => by simp [eqF])]
    have k4 := (f4'.below hb14).below hb15
    have k7 := (f7.below hb14).below hb15
    have hS16 := (hS15.below_ hb14).below_ hb15
    clear f3' f4' f5' f7 hS15 hb14 hb15
    have hn2 := names_new [⟨#[97]⟩, ⟨#[98]⟩] w15 2 (by simp)
    have hbn : Below w15.heap.size w15 (w15.alloc (.cells ([⟨#[97]⟩, ⟨#[98]⟩].map Value.string).toArray 9)) := (Below.refl _ _).alloc (Nat.le_refl _) _
    go_wp2_with fail
    refine (plainS_any [⟨#[97]⟩, ⟨#[98]⟩] [⟨#[97]⟩, ⟨#[98]⟩] v2 _ _ (k4.below hbn) hn2).mono ?_
    rintro e w16 ⟨rfl, hb16⟩
    rw [sameOf_refl (fun x => by simp [eqS])]
    have k7' := (k7.below hbn).below hb16
    have hS17 := (hS16.below_ hbn).below_ hb16
    clear k4 k7 hb16 hbn hS16 hn2
    have hn3 := names_new [⟨#[97]⟩] w16 1 (by simp)
    have hbn : Below w16.heap.size w16 (w16.alloc (.cells ([⟨#[97]⟩].map Value.string).toArray 9)) := (Below.refl _ _).alloc (Nat.le_refl _) _
    go_wp2_with fail
    refine (plainS_any [⟨#[97]⟩] [⟨#[97]⟩] v7 _ _ (k7'.below hbn) hn3).mono ?_
    rintro e w17 ⟨rfl, hb17⟩
    rw [sameOf_refl (fun x => by simp [eqS])]
    have hS18 := (hS17.below_ hbn).below_ hb17
    go_wp2_with fail
    go_ret
    exact ⟨rfl, hS18.below⟩
end Go.Proofs.Ytepaanpdjadakaa
