import Derived.Test.YtepaanpdjadakaaDoorQref
import Derived.Test.YtepaanpdjadakaaDoorPend4
import Derived.Test.YtepaanpdjadakaaDoorTail
import Derived.IntWalk
/-! The reference's pending queries: drop. -/
namespace Go.Proofs.YtepaanpdjadakaaDoor
open Go Go.RowKit

attribute [local irreducible] wpOrd
section
variable {B : Nat} {w0 w w' : World} {F : HP} {b : Nat} {n : Int} {R : List (Itm Qry)} {v u : Value}
theorem u64_zero : (Tryd.prog.info? 23).map (fun i => (i.zero, i.size, i.bytes)) = some (some (.int .u64 0), 1, 8) := by kernel_rfl
theorem u64_zero2 : (Tryd.prog.info? 23).map (fun i => (i.zero, i.size)) = some (some (.int .u64 0), 1) := by kernel_rfl
theorem flat_keyC (l : List (Itm Qry)) : (l.flatMap keyC).length = l.length * 40 := flat_length keyC_length l
theorem flat_dueC (l : List (Itm Qry)) : (l.flatMap dueC).length = l.length * 1 := flat_length dueC_length l
set_option maxRecDepth 8000 in
set_option maxHeartbeats 8000000 in
theorem qDrop_any (h : Sat B w0 w (qref b n R • F)) (hl : R.length ≤ 1000) {k : Nat} {x : Itm Qry} (h1 : R[k]? = some x) : Calls Tryd.prog 106 #[.pointer (some ⟨b, 0, none⟩), .int .i64 k] w fun e w' => e = .returned (.tuple #[]) ∧ Sat B w0 w' (qref b n (R.take k ++ R.drop (k + 1)) • F) := by
  have hkl := (List.getElem?_eq_some_iff.1 h1).1
  obtain ⟨A, c, A', c', hS⟩ := h.qref_open
  have hS2 := hS.drew
  obtain ⟨g, rfl, _, _⟩ := hS2.pull2.arr_at keyC_length rfl h1
  obtain ⟨g', rfl, _, _⟩ := hS2.pull3.arr_at dueC_length rfl h1
  have hcap : R.length ≤ c := by
    rcases hS2.pull2.arr_open with ⟨hv, _, _, _⟩ | ⟨_, _, _, hv, q1, _, _, _, _⟩
    · cases hv
    · cases hv; exact q1
  have hcap' : R.length ≤ c' := by
    rcases hS2.pull3.arr_open with ⟨hv, _, _, _⟩ | ⟨_, _, _, hv, q1, _, _, _, _⟩
    · cases hv
    · cases hv; exact q1
  obtain ⟨zq, hz1, hz2, hz3⟩ := qry_zero
  have hrd1 := hS2.pull2.head_reads keyC_length (by decide) rfl (Nat.le_of_lt hkl)
  obtain ⟨v1, w2, hr1, hA1⟩ := (arr_nil (e := 67) (sz := 40) hS2).append (m := k) (news := (R.take k).flatMap keyC) (t := 77) (ty := 77) (P := Tryd.prog) (x := .slice (some ⟨g, 0, none⟩) k c) Tryd.underlying77 hz1 hz3 (by decide) hrd1 (by rw [flat_keyC, List.length_take]; omega) (keyC_one _) (by unfold maxLen; omega) (by omega)
  rw [Nat.zero_add, List.nil_append] at hA1
  have d1' : w.drew.cell? ⟨b, 1, none⟩ = some (.slice (some ⟨g, 0, none⟩) R.length c) := cell_heap hS2.heap rfl
  have d2 : w2.cell? ⟨b, 1, none⟩ = some (.slice (some ⟨g, 0, none⟩) R.length c) := cell_heap hA1.pull2.heap rfl
  have hrd2 := hA1.pull3.tail_reads keyC_length (by decide) rfl (show k + 1 ≤ R.length by omega)
  obtain ⟨v2, w3, hr2, hA2⟩ := hA1.append (m := R.length - (k + 1)) (news := (R.drop (k + 1)).flatMap keyC) (t := 77) (ty := 77) (P := Tryd.prog) (x := tailV g 40 (k + 1) R.length c) Tryd.underlying77 hz1 hz3 (by decide) hrd2 (by rw [flat_keyC, List.length_drop]) (keyC_one _) (by unfold maxLen; omega) (by omega)
  obtain ⟨A2, c2, rfl⟩ := hA2.arr_form
  obtain ⟨w4, hr3, hA4⟩ := one_store (o := 1) (ty := 77) (u := .slice A2 (k + (R.length - (k + 1))) c2) hA2.pull2 (by kernel_rfl) (by simp) rfl rfl
  have hB := (hA4.to (by ac_rfl : _ = blk b (.cells (#[Value.int .i64 n, .slice (some ⟨g, 0, none⟩) R.length c, .slice (some ⟨g', 0, none⟩) R.length c'].setIfInBounds 1 (.slice A2 (k + (R.length - (k + 1))) c2)) 86) • arr 67 40 (.slice A2 (k + (R.length - (k + 1))) c2) (k + (R.length - (k + 1))) ((R.take k).flatMap keyC ++ (R.drop (k + 1)).flatMap keyC) • arr 23 1 (.slice (some ⟨g', 0, none⟩) R.length c') R.length (R.flatMap dueC) • arr 67 40 (.slice (some ⟨g, 0, none⟩) R.length c) R.length (R.flatMap keyC) • F)).drew
  have hrd3 := hB.pull3.head_reads dueC_length (by decide) rfl (Nat.le_of_lt hkl)
  obtain ⟨v3, w5, hr4, hA5⟩ := (arr_nil (e := 23) (sz := 1) hB).append (m := k) (news := (R.take k).flatMap dueC) (t := 22) (ty := 22) (P := Tryd.prog) (x := .slice (some ⟨g', 0, none⟩) k c') Tryd.underlying22 u64_zero (by simp [Value.cells]) (by decide) hrd3 (by rw [flat_dueC, List.length_take]; omega) (dueC_one _) (by unfold maxLen; omega) (by omega)
  rw [Nat.zero_add, List.nil_append] at hA5
  have e1' : w4.drew.cell? ⟨b, 2, none⟩ = some (.slice (some ⟨g', 0, none⟩) R.length c') := cell_heap hB.heap rfl
  have e2 : w5.cell? ⟨b, 2, none⟩ = some (.slice (some ⟨g', 0, none⟩) R.length c') := cell_heap hA5.pull2.heap rfl
  have hrd4 := hA5.pull4.tail_reads dueC_length (by decide) rfl (show k + 1 ≤ R.length by omega)
  obtain ⟨v4, w6, hr5, hA6⟩ := hA5.append (m := R.length - (k + 1)) (news := (R.drop (k + 1)).flatMap dueC) (t := 22) (ty := 22) (P := Tryd.prog) (x := tailV g' 1 (k + 1) R.length c') Tryd.underlying22 u64_zero (by simp [Value.cells]) (by decide) hrd4 (by rw [flat_dueC, List.length_drop]) (dueC_one _) (by unfold maxLen; omega) (by omega)
  obtain ⟨A3, c3, rfl⟩ := hA6.arr_form
  obtain ⟨w7, hr6, hA7⟩ := one_store (o := 2) (ty := 22) (u := .slice A3 (k + (R.length - (k + 1))) c3) hA6.pull2 (by kernel_rfl) (by simp) rfl rfl
  have hln : k + (R.length - (k + 1)) = (R.take k ++ R.drop (k + 1)).length := by rw [List.length_append, List.length_take, List.length_drop]; omega
  have hEnd : Sat B w0 w7 (qref b n (R.take k ++ R.drop (k + 1)) • F) := by
    refine Sat.qref_shut (v := .slice A2 (k + (R.length - (k + 1))) c2) (u := .slice A3 (k + (R.length - (k + 1))) c3) ?_
    rw [List.flatMap_append, List.flatMap_append, ← hln]
    have h9 := hA7.to (by ac_rfl : _ = arr 67 40 (.slice (some ⟨g, 0, none⟩) R.length c) R.length (R.flatMap keyC) • arr 23 1 (.slice (some ⟨g', 0, none⟩) R.length c') R.length (R.flatMap dueC) • blk b (.cells ((#[Value.int .i64 n, .slice (some ⟨g, 0, none⟩) R.length c, .slice (some ⟨g', 0, none⟩) R.length c'].setIfInBounds 1 (.slice A2 (k + (R.length - (k + 1))) c2)).setIfInBounds 2 (.slice A3 (k + (R.length - (k + 1))) c3)) 86) • arr 67 40 (.slice A2 (k + (R.length - (k + 1))) c2) (k + (R.length - (k + 1))) ((R.take k).flatMap keyC ++ (R.drop (k + 1)).flatMap keyC) • arr 23 1 (.slice A3 (k + (R.length - (k + 1))) c3) (k + (R.length - (k + 1))) ((R.take k).flatMap dueC ++ (R.drop (k + 1)).flatMap dueC) • F)
    exact h9.drop.drop
  have HEND := Lib.hid hEnd
  have hk1 : IntKind.i64.wrap ((k : Int) + 1) = ((k + 1 : Nat) : Int) := by rw [IntWalk.i64_in _ (by omega)]; rfl
  have hk1' : wrap64 ((k : Int) + 1) = ((k + 1 : Nat) : Int) := by rw [IntWalk.wrap64_in _ (by omega)]; rfl
  clear hEnd hA7 hA6 hA5 hA4 hB hA2 hA1 hS2 hS h1 h hrd1 hrd2 hrd3 hrd4 hln hz1 hz2 hz3
  generalize R.length = sl at *
  go_enter Tryd.func106, Tryd.ntmps106
  go_wp2_with fail
  try go_frame
  refine wp_region_ord [(0, .pure), (1, .pure), (2, .pure), (3, .pure), (4, .quiet), (5, .pure), (6, .pure), (8, .pure), (9, .pure), (10, .pure), (11, .quiet), (12, .pure), (13, .pure), (14, .pure), (7, .acts), (15, .seals), (16, .pure), (17, .pure), (18, .seals)] (by kernel_rfl) (by kernel_rfl)
    (fun w' => w'.cell? ⟨b, 1, none⟩ = some (.slice (some ⟨g, 0, none⟩) sl c)) d1' ?_
  iterate 4 (refine ord_pure rfl rfl rfl (fun K' hK => ?_); go_big_quiet_op; refine hK _ ?_; clear hK K')
  refine ord_load (t := 77) rfl rfl rfl (p := .pointer (some ⟨b, 1, none⟩)) (v := .slice (some ⟨g, 0, none⟩) sl c) rfl (fun w' hC => load_one Tryd.underlying77 rfl hC) (fun K' hK => ?_)
  go_simp
  refine hK _ ?_
  clear hK K'
  iterate 1 (refine ord_pure rfl rfl rfl (fun K' hK => ?_); go_big_quiet_op; refine hK _ ?_; clear hK K')
  refine ord_head rfl rfl rfl (k := k) (sz := 40) rfl rfl Tryd.underlying77 (by kernel_rfl) (by omega) (fun K' hK => ?_)
  go_simp
  refine hK _ ?_
  clear hK K'
  iterate 3 (refine ord_pure rfl rfl rfl (fun K' hK => ?_); go_big_quiet_op; refine hK _ ?_; clear hK K')
  refine ord_load (t := 77) rfl rfl rfl (p := .pointer (some ⟨b, 1, none⟩)) (v := .slice (some ⟨g, 0, none⟩) sl c) rfl (fun w' hC => load_one Tryd.underlying77 rfl hC) (fun K' hK => ?_)
  go_simp
  refine hK _ ?_
  clear hK K'
  iterate 2 (refine ord_pure rfl rfl rfl (fun K' hK => ?_); go_big_quiet_op; refine hK _ ?_; clear hK K')
  refine ord_tail rfl rfl rfl (k := k + 1) (sz := 40) (g := g) (n := sl) (c := c) rfl rfl Tryd.underlying77 (by kernel_rfl) (by omega) (by omega) (fun K' hK => ?_)
  go_simp
  refine hK _ ?_
  clear hK K'
  refine ord_acts rfl rfl (fun K' hK => wp_append_run _ _ _ rfl rfl rfl hr1 (hK _ _ d2 ?_))
  clear hK K'
  go_simp
  refine ord_seals rfl rfl (fun K' hK => wp_append_run _ _ _ rfl rfl rfl hr2 (hK (fun _ => True) _ _ trivial ?_))
  clear hK K'
  go_simp
  iterate 2 (refine ord_pure rfl rfl rfl (fun K' hK => ?_); go_big_quiet_op; refine hK _ ?_; clear hK K')
  refine ord_store rfl rfl rfl rfl (p := .pointer (some ⟨b, 1, none⟩)) (v := .slice A2 (k + (sl - (k + 1))) c2) rfl rfl hr3 (fun _ => True) trivial ?_
  refine ord_nil ?_
  go_wp2_with fail
  try go_frame
  refine wp_region_ord [(0, .pure), (1, .pure), (2, .pure), (3, .pure), (4, .quiet), (5, .pure), (6, .pure), (8, .pure), (9, .pure), (10, .pure), (11, .quiet), (12, .pure), (13, .pure), (14, .pure), (7, .acts), (15, .seals), (16, .pure), (17, .pure), (18, .seals)] (by kernel_rfl) (by kernel_rfl)
    (fun w' => w'.cell? ⟨b, 2, none⟩ = some (.slice (some ⟨g', 0, none⟩) sl c')) e1' ?_
  iterate 4 (refine ord_pure rfl rfl rfl (fun K' hK => ?_); go_big_quiet_op; refine hK _ ?_; clear hK K')
  refine ord_load (t := 22) rfl rfl rfl (p := .pointer (some ⟨b, 2, none⟩)) (v := .slice (some ⟨g', 0, none⟩) sl c') rfl (fun w' hC => load_one Tryd.underlying22 rfl hC) (fun K' hK => ?_)
  go_simp
  refine hK _ ?_
  clear hK K'
  iterate 1 (refine ord_pure rfl rfl rfl (fun K' hK => ?_); go_big_quiet_op; refine hK _ ?_; clear hK K')
  refine ord_head rfl rfl rfl (k := k) (sz := 1) rfl rfl Tryd.underlying22 (by kernel_rfl) (by omega) (fun K' hK => ?_)
  go_simp
  refine hK _ ?_
  clear hK K'
  iterate 3 (refine ord_pure rfl rfl rfl (fun K' hK => ?_); go_big_quiet_op; refine hK _ ?_; clear hK K')
  refine ord_load (t := 22) rfl rfl rfl (p := .pointer (some ⟨b, 2, none⟩)) (v := .slice (some ⟨g', 0, none⟩) sl c') rfl (fun w' hC => load_one Tryd.underlying22 rfl hC) (fun K' hK => ?_)
  go_simp
  refine hK _ ?_
  clear hK K'
  iterate 2 (refine ord_pure rfl rfl rfl (fun K' hK => ?_); go_big_quiet_op; refine hK _ ?_; clear hK K')
  refine ord_tail rfl rfl rfl (k := k + 1) (sz := 1) (g := g') (n := sl) (c := c') rfl rfl Tryd.underlying22 (by kernel_rfl) (by omega) (by omega) (fun K' hK => ?_)
  go_simp
  refine hK _ ?_
  clear hK K'
  refine ord_acts rfl rfl (fun K' hK => wp_append_run _ _ _ rfl rfl rfl hr4 (hK _ _ e2 ?_))
  clear hK K'
  go_simp
  refine ord_seals rfl rfl (fun K' hK => wp_append_run _ _ _ rfl rfl rfl hr5 (hK (fun _ => True) _ _ trivial ?_))
  clear hK K'
  go_simp
  iterate 2 (refine ord_pure rfl rfl rfl (fun K' hK => ?_); go_big_quiet_op; refine hK _ ?_; clear hK K')
  refine ord_store rfl rfl rfl rfl (p := .pointer (some ⟨b, 2, none⟩)) (v := .slice A3 (k + (sl - (k + 1))) c3) rfl rfl hr6 (fun _ => True) trivial ?_
  refine ord_nil ?_
  go_end0
  exact ⟨rfl, HEND.out⟩
end
end Go.Proofs.YtepaanpdjadakaaDoor
