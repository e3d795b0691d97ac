import Derived.Test.YtepaanpdjadakaaDoorArr2
import Derived.Test.YtepaanpdjadakaaDoorExp8
import Derived.Test.YtepaanpdjadakaaDoorFail
import Derived.Test.YtepaanpdjadakaaDoorBaseQ
/-! The reference: Push. -/
namespace Go.Proofs.YtepaanpdjadakaaDoor
open Go Go.RowKit

attribute [local irreducible] wpOrd
section
variable {B : Nat} {w0 w w' : World} {F : HP} {b : Nat} {n : Int} {S : List Ent} {v : Value}
set_option maxRecDepth 8000 in
set_option maxHeartbeats 4000000 in
theorem ePush_any (h : Sat B w0 w (ends b n S • F)) (hl : S.length ≤ 1000) (id a : Int) : Calls Tryd.prog 35 #[.pointer (some ⟨b, 0, none⟩), .int .i64 id, .int .u64 a] w fun e w' =>
    e = .returned (failV (pushC (roomOf n) S id)) ∧ Sat B w0 w' (ends b n (pushS (roomOf n) S id a) • F) := by
  have hx := h.alloc (.cells zeroFail 46)
  have c1 := ePlace_any hx.pull2 hl id
  unfold zeroFail at hx c1
  rcases eplc_cases S id with ⟨h1, h2⟩ | ⟨k, x, h1, h2, h3, h4⟩
  · rw [h1] at c1
    by_cases hf : roomOf n ≤ S.length
    · have hp : pushC (roomOf n) S id = 18 ∧ pushS (roomOf n) S id a = S := by unfold pushC pushS; simp [h2, hf]
      rw [hp.1, hp.2]
      have hf1 : decide (roomOf n ≤ S.length) = true := decide_eq_true hf
      obtain ⟨A, c, hS⟩ := hx.pull2.ends_open
      have d1 : (w.alloc (.cells #[.int .i64 0, .int .i64 0, .bool false] 46)).cell? ⟨b, 1, none⟩ = some (.slice A S.length c) := by simp [World.cell?, hS.heap]
      have d0 : (w.alloc (.cells #[.int .i64 0, .int .i64 0, .bool false] 46)).cell? ⟨b, 0, none⟩ = some (.int .i64 n) := by simp [World.cell?, hS.heap]
      generalize hW : w.alloc (.cells #[.int .i64 0, .int .i64 0, .bool false] 46) = W at *
      have HW := Lib.hid hW
      clear hW hp hf h h1 h2 hS
      go_enter Tryd.func35, Tryd.ntmps35
      go_wp2_with fail
      rw [HW.out]
      clear HW
      refine c1.mono ?_
      rintro e w1 ⟨rfl, rfl⟩
      have hx2 := hx.drew
      clear c1
      go_wp2_with fail
      try go_frame
      refine wp_region_ord [(0, .pure), (1, .pure), (2, .pure), (3, .quiet), (4, .pure), (5, .pure), (6, .pure), (7, .pure), (8, .quiet), (9, .acts), (10, .pure)] (by kernel_rfl) (by kernel_rfl)
        (fun w' => ∀ p, w'.cell? p = w1.cell? p) (fun _ => rfl) ?_
      iterate 3 (refine ord_pure rfl rfl rfl (fun K' hK => ?_); go_big_quiet_op; refine hK _ ?_; clear hK K')
      refine ord_load (t := 30) rfl rfl rfl (p := .pointer (some ⟨b, 1, none⟩)) (v := .slice A S.length c) rfl (fun w' hC => load_one Tryd.underlying30 rfl (by rw [hC]; exact d1)) (fun K' hK => ?_)
      go_simp
      refine hK _ ?_
      clear hK K'
      iterate 4 (refine ord_pure rfl rfl rfl (fun K' hK => ?_); go_big_quiet_op; refine hK _ ?_; clear hK K')
      refine ord_load (t := 3) rfl rfl rfl (p := .pointer (some ⟨b, 0, none⟩)) (v := .int .i64 n) rfl (fun w' hC => load_one Tryd.underlying3 rfl (by rw [hC]; exact d0)) (fun K' hK => ?_)
      go_simp
      refine hK _ ?_
      clear hK K'
      refine ord_acts rfl rfl (fun K' hK => ?_)
      go_simp
      refine (held_any n _).mono ?_
      rintro e w2 ⟨rfl, rfl⟩
      refine hK _ _ (fun _ => rfl) ?_
      clear hK K'
      go_simp
      iterate 1 (refine ord_pure rfl rfl rfl (fun K' hK => ?_); go_big_quiet_op; refine hK _ ?_; clear hK K')
      refine ord_nil ?_
      go_wp2_with fail
      refine (bare_any 18 _).mono ?_
      rintro e w8 ⟨rfl, hb8⟩
      obtain ⟨W9, hst, hS9⟩ := fail_store (c := 18) (hx2.below_ hb8) rfl
      have hld := fail_load hS9
      have HS9 := Lib.hid hS9
      clear hS9
      go_wp2_with (refine wpList_store_run (t := 46) rfl rfl rfl rfl hst ?_)
      refine ret_cell rfl rfl hld rfl ?_
      exact ⟨rfl, HS9.out.drop⟩
    · have hp : pushC (roomOf n) S id = 0 ∧ pushS (roomOf n) S id a = S ++ [⟨id, a⟩] := by unfold pushC pushS; simp [h2, hf]
      rw [hp.1, hp.2]
      have hf1 : decide (roomOf n ≤ S.length) = false := decide_eq_false hf
      obtain ⟨A, c, hS⟩ := hx.pull2.ends_open
      have d1 : (w.alloc (.cells #[.int .i64 0, .int .i64 0, .bool false] 46)).cell? ⟨b, 1, none⟩ = some (.slice A S.length c) := by simp [World.cell?, hS.heap]
      have d0 : (w.alloc (.cells #[.int .i64 0, .int .i64 0, .bool false] 46)).cell? ⟨b, 0, none⟩ = some (.int .i64 n) := by simp [World.cell?, hS.heap]
      have hsz := (World.size_alloc w (.cells #[.int .i64 0, .int .i64 0, .bool false] 46))
      generalize hW : w.alloc (.cells #[.int .i64 0, .int .i64 0, .bool false] 46) = W at *
      have HW := Lib.hid hW
      -- the copy
      have hS2 := hS.drew
      obtain ⟨v1, w2, hr1, hA1⟩ := (arr_nil (e := 34) (sz := 2) hS2).append (m := S.length) (news := S.flatMap Ent.enc) (t := 30) (ty := 30) (P := Tryd.prog) (x := .slice A S.length c) Tryd.underlying30 entry_zero' (by simp [Value.cells]) (by decide) hS2.pull2.arr_reads (flat_ent_length S) (flat_one S) (by unfold maxLen; omega) (by omega)
      rw [Nat.zero_add, List.nil_append] at hA1
      have hA2 := hA1.alloc_ (.cells (Ent.enc ⟨id, a⟩).toArray 34)
      obtain ⟨v2, w3, hr2, hA3⟩ := hA2.append (m := 1) (news := Ent.enc ⟨id, a⟩) (t := 30) (ty := 30) (P := Tryd.prog) (x := .slice (some ⟨w2.heap.size, 0, none⟩) 1 1) Tryd.underlying30 entry_zero' (by simp [Value.cells]) (by decide) reads_new rfl (Ent.enc_one _) (by unfold maxLen; omega) (by omega)
      obtain ⟨A2, c2, rfl⟩ := hA3.arr_form
      obtain ⟨w4, hr3, hA4⟩ := one_store (o := 1) (ty := 30) (u := .slice A2 (S.length + 1) c2) hA3.pull2 (by kernel_rfl) (by simp) rfl rfl
      have hA5 : Sat B w0 w4 (ends b n (S ++ [⟨id, a⟩]) • blk w.heap.size (.cells #[.int .i64 0, .int .i64 0, .bool false] 46) • F) := by
        refine Sat.ends_shut (v := .slice A2 (S.length + 1) c2) ?_
        rw [List.length_append, List.length_singleton, List.flatMap_append, List.flatMap_singleton]
        exact (hA4.pull3.drop).imp fun p hp => hp
      obtain ⟨w5, hst, hS9⟩ := fail_store (c := 0) hA5.pull2 rfl
      have hld := fail_load hS9
      have HS9 := Lib.hid hS9.drop
      clear hW hp hf h h1 h2 hS hS9 hA5 hA4 hA3 hA2 hA1 hS2 hsz
      go_enter Tryd.func35, Tryd.ntmps35
      go_wp2_with fail
      rw [HW.out]
      clear HW
      refine c1.mono ?_
      rintro e w1 ⟨rfl, rfl⟩
      clear c1
      go_wp2_with fail
      try go_frame
      refine wp_region_ord [(0, .pure), (1, .pure), (2, .pure), (3, .quiet), (4, .pure), (5, .pure), (6, .pure), (7, .pure), (8, .quiet), (9, .acts), (10, .pure)] (by kernel_rfl) (by kernel_rfl)
        (fun w' => ∀ p, w'.cell? p = w1.cell? p) (fun _ => rfl) ?_
      iterate 3 (refine ord_pure rfl rfl rfl (fun K' hK => ?_); go_big_quiet_op; refine hK _ ?_; clear hK K')
      refine ord_load (t := 30) rfl rfl rfl (p := .pointer (some ⟨b, 1, none⟩)) (v := .slice A S.length c) rfl (fun w' hC => load_one Tryd.underlying30 rfl (by rw [hC]; exact d1)) (fun K' hK => ?_)
      go_simp
      refine hK _ ?_
      clear hK K'
      iterate 4 (refine ord_pure rfl rfl rfl (fun K' hK => ?_); go_big_quiet_op; refine hK _ ?_; clear hK K')
      refine ord_load (t := 3) rfl rfl rfl (p := .pointer (some ⟨b, 0, none⟩)) (v := .int .i64 n) rfl (fun w' hC => load_one Tryd.underlying3 rfl (by rw [hC]; exact d0)) (fun K' hK => ?_)
      go_simp
      refine hK _ ?_
      clear hK K'
      refine ord_acts rfl rfl (fun K' hK => ?_)
      go_simp
      refine (held_any n _).mono ?_
      rintro e w2 ⟨rfl, rfl⟩
      refine hK _ _ (fun _ => rfl) ?_
      clear hK K'
      go_simp
      iterate 1 (refine ord_pure rfl rfl rfl (fun K' hK => ?_); go_big_quiet_op; refine hK _ ?_; clear hK K')
      refine ord_nil ?_
      go_wp2_with (refine wpList_append_run rfl _ _ _ rfl rfl rfl hr1 (stop_ ?_))
      unfold Stop
      go_wp2_with (refine wpList_append_run rfl _ _ _ rfl rfl rfl hr2 (stop_ ?_))
      unfold Stop
      go_wp2_with (refine wpList_store_run (t := 30) rfl rfl rfl rfl hr3 (stop_ ?_))
      unfold Stop
      go_wp2_with (refine wpList_store_run (t := 46) rfl rfl rfl rfl hst ?_)
      refine ret_cell rfl rfl hld rfl ?_
      exact ⟨rfl, HS9.out⟩
  · have hp : pushC (roomOf n) S id = 19 ∧ pushS (roomOf n) S id a = S := by unfold pushC pushS; simp [h4]
    rw [hp.1, hp.2]
    rw [h3] at c1
    clear hp h1 h2 h3 h4 h
    go_enter Tryd.func35, Tryd.ntmps35
    go_wp2_with fail
    refine c1.mono ?_
    rintro e w1 ⟨rfl, rfl⟩
    go_wp2_with fail
    refine (bare_any 19 _).mono ?_
    rintro e w8 ⟨rfl, hb8⟩
    obtain ⟨W9, hst, hS9⟩ := fail_store (c := 19) (hx.below_ hb8) rfl
    have hld := fail_load hS9
    have HS9 := Lib.hid hS9
    clear hS9
    go_wp2_with (refine wpList_store_run (t := 46) rfl rfl rfl rfl hst ?_)
    refine ret_cell rfl rfl hld rfl ?_
    exact ⟨rfl, HS9.out.drop⟩
end
end Go.Proofs.YtepaanpdjadakaaDoor
