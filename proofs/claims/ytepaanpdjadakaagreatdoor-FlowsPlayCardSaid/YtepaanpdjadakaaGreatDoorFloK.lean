import Derived.Test.YtepaanpdjadakaaGreatDoorFloB
/-! drop of a flow, its block kept. -/
namespace Go.Proofs.YtepaanpdjadakaaGreatDoor
open Go Go.RowKit

attribute [local irreducible] wpOrd
section
variable {B : Nat} {w0 w w' : World} {F : HP} {R : List FIt} {t room : Nat} {next : Int}
set_option maxRecDepth 8000 in
set_option maxHeartbeats 4000000 in
theorem flDropK_any (h : Sat B w0 w (fltab t room R next • F)) (hn : KNW R) {k : Nat} {x : FIt} (hx : R[k]? = some x) : Calls Tryz.prog 43 #[.pointer (some ⟨t, 0, none⟩), .pointer (some ⟨x.key.p, 0, none⟩)] w fun e w' => e = .returned (.tuple #[]) ∧ Sat B w0 w' (fltab t room (R.filter fun y => !isW x.key.tup y) next • (itb x • F)) := by
  have egd : ∀ args w, (callFunc 59 args).run Tryz.prog w = .ok (.enter 59 args) w := enters_of Tryz.func59 (by kernel_rfl) rfl
  obtain ⟨A, c, q, hg, hl1, hl2, hT⟩ := h.fl_open
  have hps := Sat.its_ps R F hT.drop.drop.drop
  obtain ⟨hc1, hc2⟩ := cut_same hg hps hn hx
  have hX := (hT.alloc (.cells #[.pointer (some ⟨x.key.p, 0, none⟩)] 69)).drew
  have hX4 := hX.drop.drop.drop.drop.it_heap hx
  have hC0 : (w.alloc (.cells #[.pointer (some ⟨x.key.p, 0, none⟩)] 69)).drew.cell? ⟨t, 1, none⟩ = some (.pointer (some ⟨q, 0, none⟩)) ∧ (w.alloc (.cells #[.pointer (some ⟨x.key.p, 0, none⟩)] 69)).drew.cell? ⟨w.heap.size, 0, none⟩ = some (.pointer (some ⟨x.key.p, 0, none⟩)) ∧ (w.alloc (.cells #[.pointer (some ⟨x.key.p, 0, none⟩)] 69)).drew.cell? ⟨x.key.p, 40, none⟩ = some (.int .i64 x.id) :=
    ⟨cell_heap hX.pull2.heap rfl, cell_heap hX.heap rfl, cell_heap hX4 (by simpa using flC_id x)⟩
  have c1 := qCancel_any (hX.to (by ac_rfl : _ = queue q room (ents R) • blk w.heap.size (.cells #[.pointer (some ⟨x.key.p, 0, none⟩)] 69) • blk t (.cells #[.slice A R.length c, .pointer (some ⟨q, 0, none⟩), .int .i64 next] 66) • arr 69 1 (.slice A R.length c) R.length (R.flatMap ptrC) • its R F)) x.id
  rw [hc2] at c1
  have hits : its R F = its (R.filter fun y => !isW x.key.tup y) (itb x • F) := by
    rw [its_mid hx, its_star, cut_filter (key := fun y : FIt => y.key.tup) hn hx]
    rfl
  have HITS := Lib.hid hits
  clear hits
  have HC1 := Lib.hid hc1
  have HG := Lib.hid (hg.sub (List.filter_sublist (p := fun y => !isW x.key.tup y)))
  have hfl : (R.filter fun y => !isW x.key.tup y).length ≤ R.length := List.length_filter_le _ _
  have hRl : R.length ≤ 1000 := by omega
  have hit : ∀ y ∈ R, ∀ W G, Sat B w0 W ((blk w.heap.size (.cells #[.pointer (some ⟨x.key.p, 0, none⟩)] 69) • blk t (.cells #[.slice A R.length c, .pointer (some ⟨q, 0, none⟩), .int .i64 next] 66) • queue q room (ents (R.filter fun y => !isW x.key.tup y)) • its R F) • G) → W.heap[y.key.p]? = some (.cells (flC y).toArray 72) := by
    intro y hy W G hW
    obtain ⟨j, hj⟩ := List.mem_iff_getElem?.1 hy
    exact hW.left.drop.drop.drop.it_heap hj
  have HIT := Lib.hid hit
  have HX := Lib.hid hx
  clear hX4 hX hT h hn hx hps hc1 hc2 hg hl1 hit
  generalize x.key.tup = tu at *
  generalize hpx : x.key.p = px at *
  generalize x.id = xi at *
  generalize hbx : w.heap.size = bx at *
  go_enter Tryz.func43, Tryz.ntmps43
  go_wp2_with fail
  try rw [hbx]
  try go_frame
  refine wp_region_ord [(0, .pure), (1, .pure), (2, .pure), (3, .quiet), (4, .quiet), (5, .pure), (6, .pure), (7, .quiet), (8, .seals)] (by kernel_rfl) (by kernel_rfl)
    (fun w' => w'.cell? ⟨t, 1, none⟩ = some (.pointer (some ⟨q, 0, none⟩)) ∧ w'.cell? ⟨bx, 0, none⟩ = some (.pointer (some ⟨px, 0, none⟩)) ∧ w'.cell? ⟨px, 40, none⟩ = some (.int .i64 xi)) hC0 ?_
  iterate 3 (refine ord_pure rfl rfl rfl (fun K' hK => ?_); go_big_quiet_op; refine hK _ ?_; clear hK K')
  refine ord_load (t := 62) rfl rfl rfl (p := .pointer (some ⟨t, 1, none⟩)) (v := .pointer (some ⟨q, 0, none⟩)) rfl (fun w' hC => load_one Tryz.underlying62 rfl hC.1) (fun K' hK => ?_)
  go_simp
  refine hK _ ?_
  clear hK K'
  refine ord_load (t := 69) rfl rfl rfl (p := .pointer (some ⟨bx, 0, none⟩)) (v := .pointer (some ⟨px, 0, none⟩)) rfl (fun w' hC => load_one Tryz.underlying69 rfl hC.2.1) (fun K' hK => ?_)
  go_simp
  refine hK _ ?_
  clear hK K'
  iterate 2 (refine ord_pure rfl rfl rfl (fun K' hK => ?_); go_big_quiet_op; refine hK _ ?_; clear hK K')
  refine ord_load (t := 3) rfl rfl rfl (p := .pointer (some ⟨px, 40, none⟩)) (v := .int .i64 xi) rfl (fun w' hC => load_one Tryz.underlying3 rfl hC.2.2) (fun K' hK => ?_)
  go_simp
  refine hK _ ?_
  clear hK K'
  refine ord_seals rfl rfl (fun K' hK => ?_)
  go_simp
  refine (c1).mono ?_
  rintro e w3 ⟨rfl, hS3⟩
  refine hK (fun _ => True) _ _ trivial ?_
  clear hK K'
  go_simp
  refine ord_nil ?_
  have cd := deleteW_any (B := B) (w0 := w0) (p := isP px) (l := R) (g := 59) (lb := #[.pointer (some ⟨bx, 0, none⟩)]) (v := .slice A R.length c) (A := blk bx (.cells #[.pointer (some ⟨px, 0, none⟩)] 69) • blk t (.cells #[.slice A R.length c, .pointer (some ⟨q, 0, none⟩), .int .i64 next] 66) • queue q room (ents (R.filter fun y => !isW tu y)) • its R F) egd hRl
    (fun y W G hy hS => (dropW1_any (cx := (flC x).toArray) (cy := (flC y).toArray) (hS.to (by rw [star_assoc])) (by have := HIT.out x (List.mem_of_getElem? HX.out) W G hS; rwa [hpx] at this) (HIT.out y hy W G hS)).mono fun e w' ⟨he, hs⟩ => ⟨he, hs ▸ hS⟩) (hS3.to (by ac_rfl))
  rw [HC1.out] at cd
  have d1 : w3.cell? ⟨t, 0, none⟩ = some (.slice A R.length c) := cell_heap hS3.pull3.heap rfl
  clear hS3 hC0 egd hbx hpx
  go_wp2_with fail
  refine cd.mono ?_
  rintro e w4 ⟨v4, rfl, hS4⟩
  obtain ⟨A4, c4, rfl⟩ := hS4.arr_form
  obtain ⟨w5, hr5, hS5⟩ := one_store (o := 0) (ty := 64) (u := .slice A4 (R.filter fun y => !isW tu y).length c4) hS4.pull3 (by kernel_rfl) (by simp) rfl rfl
  have h6 := hS5.to (by ac_rfl : _ = blk bx (.cells #[.pointer (some ⟨px, 0, none⟩)] 69) • blk t (.cells (#[Value.slice A R.length c, .pointer (some ⟨q, 0, none⟩), .int .i64 next].setIfInBounds 0 (.slice A4 (R.filter fun y => !isW tu y).length c4)) 66) • arr 69 1 (.slice A4 (R.filter fun y => !isW tu y).length c4) (R.filter fun y => !isW tu y).length ((R.filter fun y => !isW tu y).flatMap ptrC) • queue q room (ents (R.filter fun y => !isW tu y)) • its R F)
  have h7 := h6.drop
  rw [HITS.out] at h7
  have HF := Lib.hid (Sat.fl_shut (v := .slice A4 (R.filter fun y => !isW tu y).length c4) (q := q) HG.out h7)
  clear h7 h6 hS5 hS4 cd
  go_wp2_with (refine wpList_store_run (t := 64) rfl rfl rfl rfl hr5 (stop_ ?_))
  unfold Stop
  go_wp2_with fail
  refine bodyPost_end (results_none (by rfl) _ _ _) (by rfl) ?_
  exact ⟨rfl, HF.out⟩
end
end Go.Proofs.YtepaanpdjadakaaGreatDoor
