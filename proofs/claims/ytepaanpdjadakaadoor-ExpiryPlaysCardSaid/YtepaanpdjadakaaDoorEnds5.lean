import Derived.Test.YtepaanpdjadakaaDoorArr2
import Derived.Test.YtepaanpdjadakaaDoorExp8
import Derived.Test.YtepaanpdjadakaaDoorFail
import Derived.Test.YtepaanpdjadakaaDoorTail
import Derived.IntWalk
import Derived.Test.YtepaanpdjadakaaDoorBaseQ
/-! The reference: Cancel. -/
namespace Go.Proofs.YtepaanpdjadakaaDoor
open Go Go.RowKit

attribute [local irreducible] wpOrd
section
variable {B : Nat} {w0 w w' : World} {F : HP} {b : Nat} {n : Int} {S : List Ent} {v : Value}
set_option maxRecDepth 8000 in
set_option maxHeartbeats 4000000 in
theorem eCancel_any (h : Sat B w0 w (ends b n S • F)) (hl : S.length ≤ 1000) (hn : Nd S) (id : Int) : Calls Tryd.prog 32 #[.pointer (some ⟨b, 0, none⟩), .int .i64 id] w fun e w' =>
    e = .returned (failV (noneC S id)) ∧ Sat B w0 w' (ends b n (without S id) • F) := by
  have hx := h.alloc (.cells zeroFail 46)
  have c1 := ePlace_any hx.pull2 hl id
  unfold zeroFail at hx c1
  rcases eplc_cases S id with ⟨h1, h2⟩ | ⟨k, x, h1, h2, h3, h4⟩
  · rw [h1] at c1
    rw [noneC_no h2, without_no h2]
    clear h1 h2 h
    go_enter Tryd.func32, Tryd.ntmps32
    go_wp2_with fail
    refine c1.mono ?_
    rintro e w1 ⟨rfl, rfl⟩
    go_wp2_with fail
    refine (bare_any 20 _).mono ?_
    rintro e w8 ⟨rfl, hb8⟩
    obtain ⟨W9, hst, hS9⟩ := fail_store (c := 20) (hx.below_ hb8) rfl
    have hld := fail_load hS9
    have HS9 := Lib.hid hS9
    clear hS9
    go_wp2_with (refine wpList_store_run (t := 46) rfl rfl rfl rfl hst ?_)
    refine ret_cell rfl rfl hld rfl ?_
    exact ⟨rfl, HS9.out.drop⟩
  · rw [noneC_yes h4]
    rw [h3] at c1
    have hkl := (List.getElem?_eq_some_iff.1 h1).1
    obtain ⟨A, c, hS⟩ := hx.pull2.ends_open
    have d1 : (w.alloc (.cells #[.int .i64 0, .int .i64 0, .bool false] 46)).cell? ⟨b, 1, none⟩ = some (.slice A S.length c) := by simp [World.cell?, hS.heap]
    generalize hW : w.alloc (.cells #[.int .i64 0, .int .i64 0, .bool false] 46) = W at *
    have HW := Lib.hid hW
    rw [← cut_without hn h1 h2]
    have hS2 := hS.drew
    have hrd1 := hS2.pull2.head_reads Ent.enc_length (by decide) rfl (Nat.le_of_lt hkl)
    obtain ⟨v1, w2, hr1, hA1⟩ := (arr_nil (e := 34) (sz := 2) hS2).append (m := k) (news := (S.take k).flatMap Ent.enc) (t := 30) (ty := 30) (P := Tryd.prog) (x := .slice A k c) Tryd.underlying30 entry_zero' (by simp [Value.cells]) (by decide) hrd1 (by rw [flat_ent_length, List.length_take]; omega) (flat_one _) (by unfold maxLen; omega) (by omega)
    rw [Nat.zero_add, List.nil_append] at hA1
    obtain ⟨g, rfl, _, _⟩ := hS2.pull2.arr_at Ent.enc_length rfl h1
    have hcap : S.length ≤ c := by
      rcases hS2.pull2.arr_open with ⟨hv, _, _, _⟩ | ⟨_, _, _, hv, q1, _, _, _, _⟩
      · cases hv
      · cases hv; exact q1
    have d1' : W.drew.cell? ⟨b, 1, none⟩ = some (.slice (some ⟨g, 0, none⟩) S.length c) := d1
    have d2 : w2.cell? ⟨b, 1, none⟩ = some (.slice (some ⟨g, 0, none⟩) S.length c) := by simp [World.cell?, hA1.pull2.heap]
    have hrd2 := hA1.pull3.tail_reads Ent.enc_length (by decide) rfl (show k + 1 ≤ S.length by omega)
    obtain ⟨v2, w3, hr2, hA2⟩ := hA1.append (m := S.length - (k + 1)) (news := (S.drop (k + 1)).flatMap Ent.enc) (t := 30) (ty := 30) (P := Tryd.prog) (x := tailV g 2 (k + 1) S.length c) Tryd.underlying30 entry_zero' (by simp [Value.cells]) (by decide) hrd2 (by rw [flat_ent_length, List.length_drop]) (flat_one _) (by unfold maxLen; omega) (by omega)
    obtain ⟨A2, c2, rfl⟩ := hA2.arr_form
    obtain ⟨w4, hr3, hA4⟩ := one_store (o := 1) (ty := 30) (u := .slice A2 (k + (S.length - (k + 1))) c2) hA2.pull2 (by kernel_rfl) (by simp) rfl rfl
    have hln : k + (S.length - (k + 1)) = (S.take k ++ S.drop (k + 1)).length := by rw [List.length_append, List.length_take, List.length_drop]; omega
    have hA5 : Sat B w0 w4 (ends b n (S.take k ++ S.drop (k + 1)) • blk w.heap.size (.cells #[.int .i64 0, .int .i64 0, .bool false] 46) • F) := by
      refine Sat.ends_shut (v := .slice A2 (k + (S.length - (k + 1))) c2) ?_
      rw [List.flatMap_append, ← hln]
      exact hA4.pull3.drop
    obtain ⟨w5, hst, hS9⟩ := fail_store (c := 0) hA5.pull2 rfl
    have hld := fail_load hS9
    have HS9 := Lib.hid hS9.drop
    have hk1 : IntKind.i64.wrap ((k : Int) + 1) = ((k + 1 : Nat) : Int) := by rw [IntWalk.i64_in _ (by omega)]; rfl
    have hk1' : wrap64 ((k : Int) + 1) = ((k + 1 : Nat) : Int) := by rw [IntWalk.wrap64_in _ (by omega)]; rfl
    generalize S.length = sl at *
    clear hW hS9 hA5 hA4 hA2 hA1 hS2 hS h1 h2 h3 h4 h hn hrd1 hrd2 hln
    go_enter Tryd.func32, Tryd.ntmps32
    go_wp2_with fail
    rw [HW.out]
    clear HW
    refine c1.mono ?_
    rintro e w1 ⟨rfl, rfl⟩
    clear c1
    go_wp2_with fail
    try go_frame
    refine wp_region_ord [(0, .pure), (1, .pure), (2, .pure), (3, .pure), (4, .quiet), (5, .pure), (6, .pure), (8, .pure), (9, .pure), (10, .pure), (11, .quiet), (12, .pure), (13, .pure), (14, .pure), (7, .acts), (15, .seals), (16, .pure), (17, .pure), (18, .seals)] (by kernel_rfl) (by kernel_rfl)
      (fun w' => w'.cell? ⟨b, 1, none⟩ = some (.slice (some ⟨g, 0, none⟩) sl c)) d1' ?_
    iterate 4 (refine ord_pure rfl rfl rfl (fun K' hK => ?_); go_big_quiet_op; refine hK _ ?_; clear hK K')
    refine ord_load (t := 30) rfl rfl rfl (p := .pointer (some ⟨b, 1, none⟩)) (v := .slice (some ⟨g, 0, none⟩) sl c) rfl (fun w' hC => load_one Tryd.underlying30 rfl hC) (fun K' hK => ?_)
    go_simp
    refine hK _ ?_
    clear hK K'
    iterate 1 (refine ord_pure rfl rfl rfl (fun K' hK => ?_); go_big_quiet_op; refine hK _ ?_; clear hK K')
    refine ord_head rfl rfl rfl (k := k) (sz := 2) rfl rfl Tryd.underlying30 (by kernel_rfl) (by omega) (fun K' hK => ?_)
    go_simp
    refine hK _ ?_
    clear hK K'
    iterate 3 (refine ord_pure rfl rfl rfl (fun K' hK => ?_); go_big_quiet_op; refine hK _ ?_; clear hK K')
    refine ord_load (t := 30) rfl rfl rfl (p := .pointer (some ⟨b, 1, none⟩)) (v := .slice (some ⟨g, 0, none⟩) sl c) rfl (fun w' hC => load_one Tryd.underlying30 rfl hC) (fun K' hK => ?_)
    go_simp
    refine hK _ ?_
    clear hK K'
    iterate 2 (refine ord_pure rfl rfl rfl (fun K' hK => ?_); go_big_quiet_op; refine hK _ ?_; clear hK K')
    refine ord_tail rfl rfl rfl (k := k + 1) (sz := 2) (g := g) (n := sl) (c := c) rfl rfl Tryd.underlying30 (by kernel_rfl) (by omega) (by omega) (fun K' hK => ?_)
    go_simp
    refine hK _ ?_
    clear hK K'
    refine ord_acts rfl rfl (fun K' hK => wp_append_run _ _ _ rfl rfl rfl hr1 (hK _ _ d2 ?_))
    clear hK K'
    go_simp
    refine ord_seals rfl rfl (fun K' hK => wp_append_run _ _ _ rfl rfl rfl hr2 (hK (fun _ => True) _ _ trivial ?_))
    clear hK K'
    go_simp
    iterate 2 (refine ord_pure rfl rfl rfl (fun K' hK => ?_); go_big_quiet_op; refine hK _ ?_; clear hK K')
    refine ord_store rfl rfl rfl rfl (p := .pointer (some ⟨b, 1, none⟩)) (v := .slice A2 (k + (sl - (k + 1))) c2) rfl rfl hr3 (fun _ => True) trivial ?_
    refine ord_nil ?_
    go_wp2_with (refine wpList_store_run (t := 46) rfl rfl rfl rfl hst ?_)
    refine ret_cell rfl rfl hld rfl ?_
    exact ⟨rfl, HS9.out⟩
end
end Go.Proofs.YtepaanpdjadakaaDoor
