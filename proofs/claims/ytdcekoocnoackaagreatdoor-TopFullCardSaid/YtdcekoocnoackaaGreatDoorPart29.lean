import Derived.Test.YtdcekoocnoackaaGreatDoorPart28
import Derived.Test.YtdcekoocnoackaaGreatDoorPart17

/-! policy.Compile. -/
namespace Go.Proofs.YtdcekoocnoackaaGreatDoor
open Go Go.RowKit

theorem wp_box_w {P : Program} {w : World} {o : Oper} {a : Act} {K : Act → World → Prop} {Q : Exit → Act → World → Prop} {ty : TypeId} {x : Operand} {v : Value} (ho : o.op = .box ty x) (hx : a.eval x = v) (h : K (a.put o.dst (.pointer (some ⟨w.heap.size, 0, none⟩))) (w.alloc (.cells v.cells ty))) : o.wp P a w K Q := by
  unfold Oper.wp execOp
  simp only [ho, hx, Sem.run_bind, Instr.box]
  simp [newVar, Oper.upon]
  exact h
theorem exec_build {P : Program} {o : Oper} {a : Act} {t : TypeId} {parts : Array (Nat × Operand)} {vs : List (Nat × Value)} {cells : Array Value} (ho : o.op = .build t parts) (hv : (parts.map fun (i, x) => (i, a.eval x)).toList = vs) (hb : P.built t vs = some cells) (w' : World) :
    (execOp a.eval o).run P w' = .ok (.value (.agg cells)) w' := by
  have hr := run_build (P := P) w' t (parts.map fun (i, x) => (i, a.eval x)) cells (by rw [hv]; exact hb)
  unfold execOp
  simp only [ho, Sem.run_bind, hr, Result.andThen_ok]
  rfl
/-- The prefixes of the policy. -/
def trieH (tb : Nat) : HP := hex fun p : Nat × Nat × Nat × Nat × Nat × Nat × Nat × Nat × Nat × Nat × Nat × Option Addr => arr 3 1 (.slice p.2.2.2.2.2.2.2.2.2.2.2 1 p.1) 1 [.int .i64 2] • blk tb (.cells #[.pointer (some ⟨p.2.1, 0, none⟩), .pointer (some ⟨p.2.2.1, 0, none⟩), .int .i64 1] 284) • chain8 p.2.1 p.2.2.2.1 p.2.2.2.2.1 p.2.2.2.2.2.1 p.2.2.2.2.2.2.1 p.2.2.2.2.2.2.2.1 p.2.2.2.2.2.2.2.2.1 p.2.2.2.2.2.2.2.2.2.1 p.2.2.2.2.2.2.2.2.2.2.1 (.slice p.2.2.2.2.2.2.2.2.2.2.2 1 p.1)
theorem Sat.trie_shut {B : Nat} {w0 w : World} {F : HP} {tb x0 x1 x2 x3 x4 x5 x6 x7 x8 n6 c : Nat} {A : Option Addr} (h : Sat B w0 w (arr 3 1 (.slice A 1 c) 1 [.int .i64 2] • blk tb (.cells #[.pointer (some ⟨x0, 0, none⟩), .pointer (some ⟨n6, 0, none⟩), .int .i64 1] 284) • chain8 x0 x1 x2 x3 x4 x5 x6 x7 x8 (.slice A 1 c) • F)) : Sat B w0 w (trieH tb • F) := by
  unfold trieH
  rw [hex_star]
  refine Sat.ex_mk (c, x0, n6, x1, x2, x3, x4, x5, x6, x7, x8, A) ?_
  rw [star_assoc, star_assoc]
  exact h
theorem Sat.trie_open {B : Nat} {w0 w : World} {F : HP} {tb : Nat} (h : Sat B w0 w (trieH tb • F)) : ∃ (x0 x1 x2 x3 x4 x5 x6 x7 x8 n6 c : Nat) (A : Option Addr), Sat B w0 w (arr 3 1 (.slice A 1 c) 1 [.int .i64 2] • blk tb (.cells #[.pointer (some ⟨x0, 0, none⟩), .pointer (some ⟨n6, 0, none⟩), .int .i64 1] 284) • chain8 x0 x1 x2 x3 x4 x5 x6 x7 x8 (.slice A 1 c) • F) := by
  unfold trieH at h
  rw [hex_star] at h
  obtain ⟨⟨c, x0, n6, x1, x2, x3, x4, x5, x6, x7, x8, A⟩, h1⟩ := h.ex
  rw [star_assoc, star_assoc] at h1
  exact ⟨_, _, _, _, _, _, _, _, _, _, _, _, h1⟩
/-- The policy of the text. -/
def policyH (pol : Nat) : HP := hex fun p : Value × Value × Nat × Nat => blk pol (.cells #[p.1, p.2.1, .pointer (some ⟨p.2.2.1, 0, none⟩), .pointer (some ⟨p.2.2.2, 0, none⟩)] 176) • arr 36 17 p.1 1 srvA • arr 170 24 p.2.1 3 pols • trieH p.2.2.2
theorem Sat.pol_shut {B : Nat} {w0 w : World} {F : HP} {pol tl tb : Nat} {sv rv : Value} (h : Sat B w0 w (blk pol (.cells #[sv, rv, .pointer (some ⟨tl, 0, none⟩), .pointer (some ⟨tb, 0, none⟩)] 176) • arr 36 17 sv 1 srvA • arr 170 24 rv 3 pols • trieH tb • F)) : Sat B w0 w (policyH pol • F) := by
  unfold policyH
  rw [hex_star]
  refine Sat.ex_mk (sv, rv, tl, tb) ?_
  rw [star_assoc, star_assoc, star_assoc]
  exact h
theorem Sat.pol_open {B : Nat} {w0 w : World} {F : HP} {pol : Nat} (h : Sat B w0 w (policyH pol • F)) : ∃ (tl tb : Nat) (sv rv : Value), Sat B w0 w (blk pol (.cells #[sv, rv, .pointer (some ⟨tl, 0, none⟩), .pointer (some ⟨tb, 0, none⟩)] 176) • arr 36 17 sv 1 srvA • arr 170 24 rv 3 pols • trieH tb • F) := by
  unfold policyH at h
  rw [hex_star] at h
  obtain ⟨⟨sv, rv, tl, tb⟩, h1⟩ := h.ex
  rw [star_assoc, star_assoc, star_assoc] at h1
  exact ⟨_, _, _, _, h1⟩
theorem pols_one : ∀ u ∈ pols, u.oneCell' = true := by
  intro u hu
  have : u ∈ pol1 ++ pol2 ++ pol3 := hu
  simp only [pol1, pol2, pol3, List.cons_append, List.nil_append, List.mem_cons, List.not_mem_nil, or_false] at this
  rcases this with rfl | rfl | rfl | rfl | rfl | rfl | rfl | rfl | rfl | rfl | rfl | rfl | rfl | rfl | rfl | rfl | rfl | rfl | rfl | rfl | rfl | rfl | rfl | rfl | rfl | rfl | rfl | rfl | rfl | rfl | rfl | rfl | rfl | rfl | rfl | rfl | rfl | rfl | rfl | rfl | rfl | rfl | rfl | rfl | rfl | rfl | rfl | rfl | rfl | rfl | rfl | rfl | rfl | rfl | rfl | rfl | rfl | rfl | rfl | rfl | rfl | rfl | rfl | rfl | rfl | rfl | rfl | rfl | rfl | rfl | rfl | rfl <;> rfl
theorem srvA_one : ∀ u ∈ srvA, u.oneCell' = true := by decide
attribute [local irreducible] wpOrd
set_option maxRecDepth 8000 in
set_option maxHeartbeats 8000000 in
theorem compile_any {B : Nat} {w0 w : World} {F : HP} {As Ar : Option Addr} {cs cr : Nat} (hB : 1 < B) (hM : Mx w0) (hE : Et w0) (h : Sat B w0 w (arr 170 24 (.slice Ar 3 cr) 3 pols • arr 36 17 (.slice As 1 cs) 1 srvA • F)) :
    Calls Tryz.prog 28 #[.agg #[.slice As 1 cs, .slice Ar 3 cr]] w fun e w' => ∃ pol : Nat, e = .returned (.tuple #[.pointer (some ⟨pol, 0, none⟩), .nilIface]) ∧ Sat B w0 w' (policyH pol • F) := by
  have hS1 := h.alloc (.cells #[.slice As 1 cs, .slice Ar 3 cr] 88)
  have hl : (Instr.loadAt 88 (.pointer (some ⟨w.heap.size, 0, none⟩))).run Tryz.prog (w.alloc (.cells #[.slice As 1 cs, .slice Ar 3 cr] 88)) = .ok (.agg #[.slice As 1 cs, .slice Ar 3 cr]) (w.alloc (.cells #[.slice As 1 cs, .slice Ar 3 cr] 88)) :=
    run_loadAt_row (cs := [.slice As 1 cs, .slice Ar 3 cr]) hS1.heap Tryz.underlying88 rfl (by kernel_rfl) (fun j u hu => by simpa using hu)
  have c1 := rright_any hB hM hS1.rot3
  generalize hq : w.heap.size = q at *
  generalize hW1 : w.alloc (.cells #[.slice As 1 cs, .slice Ar 3 cr] 88) = W1 at *
  clear h hS1
  go_enter Tryz.func28, Tryz.ntmps28
  go_wp2_with (refine wpList_load_run (t := 88) rfl rfl rfl hl (stop_ ?_))
  unfold Stop
  clear hl
  go_wp2_with fail
  refine c1.mono ?_
  rintro e w2 ⟨rfl, hS2⟩
  clear c1
  go_wp2_with fail
  try go_frame
  refine wp_region_ord [(0, .pure), (1, .quiet), (3, .pure), (4, .quiet), (2, .acts), (5, .acts), (6, .pure), (7, .acts), (8, .acts), (9, .pure), (10, .acts), (11, .pure)] (by kernel_rfl) (by kernel_rfl)
    (fun w' => w'.heap[q]? = some (.cells #[.slice As 1 cs, .slice Ar 3 cr] 88)) hS2.drew.drop.drop.heap ?_
  iterate 1 (refine ord_pure rfl rfl rfl (fun K' hK => ?_); go_big_quiet_op; refine hK _ ?_; clear hK K')
  refine ord_load (t := 85) rfl rfl rfl (p := .pointer (some ⟨q, 0, none⟩)) (v := .slice As 1 cs) rfl (fun w' hC => run_loadAt_one hC Tryz.underlying85 rfl rfl) (fun K' hK => ?_)
  go_simp
  refine hK _ ?_
  clear hK K'
  iterate 1 (refine ord_pure rfl rfl rfl (fun K' hK => ?_); go_big_quiet_op; refine hK _ ?_; clear hK K')
  refine ord_load (t := 86) rfl rfl rfl (p := .pointer (some ⟨q, 1, none⟩)) (v := .slice Ar 3 cr) rfl (fun w' hC => run_loadAt_one hC Tryz.underlying86 rfl rfl) (fun K' hK => ?_)
  go_simp
  refine hK _ ?_
  clear hK K'
  refine ord_acts rfl rfl (fun K' hK => ?_)
  go_simp
  refine (cloneA_any (n := 0) srvA_one (by decide) hS2.drew.pull2).mono ?_
  rintro e w3 ⟨g1, d1, rfl, hS3⟩
  refine hK _ _ (hS3.drop.drop.drop.heap) ?_
  clear hK K'
  go_simp
  refine ord_acts rfl rfl (fun K' hK => ?_)
  go_simp
  refine (cloneR_any (n := 2) pols_one (by decide) hS3.pull3).mono ?_
  rintro e w4 ⟨g2, d2, rfl, hS4⟩
  refine hK _ _ (hS4.drop.drop.drop.drop.heap) ?_
  clear hK K'
  go_simp
  refine ord_run (v := .agg #[.slice (some ⟨g1, 0, none⟩) 1 d1, .slice (some ⟨g2, 0, none⟩) 3 d2]) rfl rfl (exec_build rfl (vs := [(0, .slice (some ⟨g1, 0, none⟩) 1 d1), (1, .slice (some ⟨g2, 0, none⟩) 3 d2)]) (by simp [Act.eval]) (by kernel_rfl)) (fun K' hK => ?_)
  go_simp
  refine hK _ ?_
  clear hK K'
  refine ord_acts rfl rfl (fun K' hK => ?_)
  go_simp
  refine (labNew hS4).mono ?_
  rintro e w5 ⟨tl, nb, rfl, hS5⟩
  refine hK _ _ (hS5.drop.drop.drop.drop.drop.drop.heap) ?_
  clear hK K'
  go_simp
  refine ord_acts rfl rfl (fun K' hK => ?_)
  go_simp
  refine (bitsNew hS5).mono ?_
  rintro e w6 ⟨tb, n4, n6, rfl, hS6⟩
  refine hK _ _ (hS6.drop.drop.drop.drop.drop.drop.drop.drop.drop.heap) ?_
  clear hK K'
  go_simp
  refine ord_run (v := .agg #[.slice (some ⟨g1, 0, none⟩) 1 d1, .slice (some ⟨g2, 0, none⟩) 3 d2, .pointer (some ⟨tl, 0, none⟩), .pointer (some ⟨tb, 0, none⟩)]) rfl rfl (exec_build rfl (vs := [(0, .agg #[.slice (some ⟨g1, 0, none⟩) 1 d1, .slice (some ⟨g2, 0, none⟩) 3 d2]), (1, .pointer (some ⟨tl, 0, none⟩)), (2, .pointer (some ⟨tb, 0, none⟩))]) (by simp [Act.eval]) (by kernel_rfl)) (fun K' hK => ?_)
  go_simp
  refine hK _ ?_
  clear hK K'
  have hS7 := hS6.alloc (.cells #[.slice (some ⟨g1, 0, none⟩) 1 d1, .slice (some ⟨g2, 0, none⟩) 3 d2, .pointer (some ⟨tl, 0, none⟩), .pointer (some ⟨tb, 0, none⟩)] 176)
  refine ord_acts rfl rfl (fun K' hK => wp_box_w rfl rfl (hK _ _ hS7.drop.drop.drop.drop.drop.drop.drop.drop.drop.drop.heap ?_))
  clear hK K'
  go_simp
  iterate 1 (refine ord_pure rfl rfl rfl (fun K' hK => ?_); go_big_quiet_op; refine hK _ ?_; clear hK K')
  refine ord_nil ?_
  have hS8 := hS7.to (by ac_rfl : _ = blk q (.cells #[.slice As 1 cs, .slice Ar 3 cr] 88) • arr 170 24 (.slice Ar 3 cr) 3 pols • arr 36 17 (.slice As 1 cs) 1 srvA • blk n6 (.cells #[.slice none 0 0, .pointer none, .pointer none] 282) • (blk tl (.cells #[.pointer (some ⟨nb, 0, none⟩), .int .i64 0] 278) • blk nb (.cells #[.slice none 0 0, .slice none 0 0, .map none] 276) • blk tb (.cells #[.pointer (some ⟨n4, 0, none⟩), .pointer (some ⟨n6, 0, none⟩), .int .i64 0] 284) • blk n4 (.cells #[.slice none 0 0, .pointer none, .pointer none] 282) • blk w6.heap.size (.cells #[.slice (some ⟨g1, 0, none⟩) 1 d1, .slice (some ⟨g2, 0, none⟩) 3 d2, .pointer (some ⟨tl, 0, none⟩), .pointer (some ⟨tb, 0, none⟩)] 176) • arr 36 17 (.slice (some ⟨g1, 0, none⟩) 1 d1) 1 srvA • arr 170 24 (.slice (some ⟨g2, 0, none⟩) 3 d2) 3 pols • F))
  have hT0 := hS8.drop.drop.drop.drop
  clear hS2 hS3 hS4 hS5 hS6 hS7 hS8
  generalize hW9 : w6.alloc (.cells #[.slice (some ⟨g1, 0, none⟩) 1 d1, .slice (some ⟨g2, 0, none⟩) 3 d2, .pointer (some ⟨tl, 0, none⟩), .pointer (some ⟨tb, 0, none⟩)] 176) = u0 at *
  generalize hpol : w6.heap.size = pol at *
  have d0 : u0.cell? ⟨pol, 1, none⟩ = some (.slice (some ⟨g2, 0, none⟩) 3 d2) := cell_heap hT0.drop.drop.drop.drop.heap rfl
  have hldr : ∀ (W : World) (G : HP), Sat B w0 W (arr 170 24 (.slice (some ⟨g2, 0, none⟩) 3 d2) 3 pols • G) → (Instr.loadAt 170 (.pointer (some ⟨g2, 0, none⟩))).run Tryz.prog W = .ok (.agg pol1.toArray) W ∧ (Instr.loadAt 170 (.pointer (some ⟨g2, 24, none⟩))).run Tryz.prog W = .ok (.agg pol2.toArray) W ∧ (Instr.loadAt 170 (.pointer (some ⟨g2, 48, none⟩))).run Tryz.prog W = .ok (.agg pol3.toArray) W := by
    intro W G hG
    obtain ⟨g, hg, hh⟩ := pols_load hG
    cases hg
    exact hh W (Below.refl _ _)
  go_wp2_with fail
  clear d0
  refine wp_loop_rounds 4 ?_
  rw [rounds_succ]
  have hl1 := (hldr _ _ (hT0.to (by ac_rfl : _ = arr 170 24 (.slice (some ⟨g2, 0, none⟩) 3 d2) 3 pols • (blk tl (.cells #[.pointer (some ⟨nb, 0, none⟩), .int .i64 0] 278) • blk nb (.cells #[.slice none 0 0, .slice none 0 0, .map none] 276) • blk tb (.cells #[.pointer (some ⟨n4, 0, none⟩), .pointer (some ⟨n6, 0, none⟩), .int .i64 0] 284) • blk n4 (.cells #[.slice none 0 0, .pointer none, .pointer none] 282) • blk pol (.cells #[.slice (some ⟨g1, 0, none⟩) 1 d1, .slice (some ⟨g2, 0, none⟩) 3 d2, .pointer (some ⟨tl, 0, none⟩), .pointer (some ⟨tb, 0, none⟩)] 176) • arr 36 17 (.slice (some ⟨g1, 0, none⟩) 1 d1) 1 srvA • F)))).1
  have hst : ∀ z : Array Value, z.size = 24 → (Instr.storeAt 170 (.pointer (some ⟨u0.heap.size, 0, none⟩)) (.agg pol1.toArray)).run Tryz.prog (u0.alloc (.cells z 170)) = .ok () (u0.alloc (.cells pol1.toArray 170)) :=
    fun z hz => run_storeAt_new (v := .agg pol1.toArray) (by kernel_rfl) (by rw [hz]; rfl) (by decide)
  have hV0 := hT0.alloc (.cells pol1.toArray 170)
  have hP1 : pol1.toArray[1]? = some (.string ⟨#[97]⟩) := rfl
  have hP2 : pol1.toArray[2]? = some (.bool true) := rfl
  have dn : (u0.alloc (.cells pol1.toArray 170)).cell? ⟨u0.heap.size, 1, none⟩ = some (.string ⟨#[97]⟩) := cell_heap hV0.heap hP1
  generalize hPK : pol1.toArray = PK at *
  go_wp2_with (first | (refine wpList_load_run (t := 170) rfl rfl rfl hl1 ?_) | (refine wpList_store_run (t := 170) rfl rfl rfl rfl (hst _ rfl) (stop_ ?_)))
  unfold Stop
  clear hst hl1
  go_wp2_with fail
  try go_frame
  generalize hxb : u0.heap.size = xb at *
  have hA0 := (hV0.drew.to (by ac_rfl : _ = blk tl (.cells #[.pointer (some ⟨nb, 0, none⟩), .int .i64 0] 278) • blk nb (.cells #[.slice none 0 0, .slice none 0 0, .map none] 276) • (blk xb (.cells PK 170) • blk tb (.cells #[.pointer (some ⟨n4, 0, none⟩), .pointer (some ⟨n6, 0, none⟩), .int .i64 0] 284) • blk n4 (.cells #[.slice none 0 0, .pointer none, .pointer none] 282) • blk pol (.cells #[.slice (some ⟨g1, 0, none⟩) 1 d1, .slice (some ⟨g2, 0, none⟩) 3 d2, .pointer (some ⟨tl, 0, none⟩), .pointer (some ⟨tb, 0, none⟩)] 176) • arr 36 17 (.slice (some ⟨g1, 0, none⟩) 1 d1) 1 srvA • arr 170 24 (.slice (some ⟨g2, 0, none⟩) 3 d2) 3 pols • F)))
  refine wp_region_ord [(0, .pure), (1, .pure), (2, .pure), (3, .quiet), (4, .pure), (5, .quiet), (6, .pure), (7, .quiet), (8, .pure), (9, .seals)] (by kernel_rfl) (by kernel_rfl)
    (fun w' => w'.heap[pol]? = some (.cells #[.slice (some ⟨g1, 0, none⟩) 1 d1, .slice (some ⟨g2, 0, none⟩) 3 d2, .pointer (some ⟨tl, 0, none⟩), .pointer (some ⟨tb, 0, none⟩)] 176) ∧ w'.heap[xb]? = some (.cells PK 170)) ⟨hV0.drew.drop.drop.drop.drop.drop.heap, hV0.drew.heap⟩ ?_
  iterate 3 (refine ord_pure rfl rfl rfl (fun K' hK => ?_); go_big_quiet_op; refine hK _ ?_; clear hK K')
  refine ord_load (t := 171) rfl rfl rfl (p := .pointer (some ⟨pol, 2, none⟩)) (v := .pointer (some ⟨tl, 0, none⟩)) rfl (fun w' hC => run_loadAt_one hC.1 Tryz.underlying171 rfl rfl) (fun K' hK => ?_)
  go_simp
  refine hK _ ?_
  clear hK K'
  iterate 1 (refine ord_pure rfl rfl rfl (fun K' hK => ?_); go_big_quiet_op; refine hK _ ?_; clear hK K')
  refine ord_load (t := 9) rfl rfl rfl (p := .pointer (some ⟨xb, 1, none⟩)) (v := .string ⟨#[97]⟩) rfl (fun w' hC => run_loadAt_one hC.2 Tryz.underlying9 rfl hP1) (fun K' hK => ?_)
  go_simp
  refine hK _ ?_
  clear hK K'
  iterate 1 (refine ord_pure rfl rfl rfl (fun K' hK => ?_); go_big_quiet_op; refine hK _ ?_; clear hK K')
  refine ord_load (t := 4) rfl rfl rfl (p := .pointer (some ⟨xb, 2, none⟩)) (v := .bool true) rfl (fun w' hC => run_loadAt_one hC.2 Tryz.underlying4 rfl hP2) (fun K' hK => ?_)
  go_simp
  refine hK _ ?_
  clear hK K'
  iterate 1 (refine ord_pure rfl rfl rfl (fun K' hK => ?_); go_big_quiet_op; refine hK _ ?_; clear hK K')
  refine ord_seals rfl rfl (fun K' hK => ?_)
  go_simp
  refine (labAdd_a hA0 (hA0.mx hB hM)).mono ?_
  rintro e u1 ⟨rfl, m, n1, sl, hU⟩
  refine hK (fun _ => True) _ _ trivial ?_
  clear hK K'
  go_simp
  refine ord_nil ?_
  have hT1 := (hU.to (by ac_rfl : _ = blk xb (.cells PK 170) • (blk tl (.cells #[.pointer (some ⟨nb, 0, none⟩), .int .i64 1] 278) • blk nb (.cells #[.slice none 0 0, .slice none 0 0, .map (some m)] 276) • blk m (.map #[{ key := .string ⟨#[97]⟩, val := .pointer (some ⟨n1, 0, none⟩), born := 0 }] 1) • blk n1 (.cells #[.slice none 0 0, sl, .map none] 276) • blk tb (.cells #[.pointer (some ⟨n4, 0, none⟩), .pointer (some ⟨n6, 0, none⟩), .int .i64 0] 284) • blk n4 (.cells #[.slice none 0 0, .pointer none, .pointer none] 282) • blk pol (.cells #[.slice (some ⟨g1, 0, none⟩) 1 d1, .slice (some ⟨g2, 0, none⟩) 3 d2, .pointer (some ⟨tl, 0, none⟩), .pointer (some ⟨tb, 0, none⟩)] 176) • arr 36 17 (.slice (some ⟨g1, 0, none⟩) 1 d1) 1 srvA • arr 170 24 (.slice (some ⟨g2, 0, none⟩) 3 d2) 3 pols • F))).drop
  clear hU hA0 hV0 hP1 hP2 dn hT0 hPK
  generalize xb = xb0 at *
  go_wp2_with fail
  rw [rounds_succ]
  have hl1 := (hldr _ _ (hT1.to (by ac_rfl : _ = arr 170 24 (.slice (some ⟨g2, 0, none⟩) 3 d2) 3 pols • (blk tl (.cells #[.pointer (some ⟨nb, 0, none⟩), .int .i64 1] 278) • blk nb (.cells #[.slice none 0 0, .slice none 0 0, .map (some m)] 276) • blk m (.map #[{ key := .string ⟨#[97]⟩, val := .pointer (some ⟨n1, 0, none⟩), born := 0 }] 1) • blk n1 (.cells #[.slice none 0 0, sl, .map none] 276) • blk tb (.cells #[.pointer (some ⟨n4, 0, none⟩), .pointer (some ⟨n6, 0, none⟩), .int .i64 0] 284) • blk n4 (.cells #[.slice none 0 0, .pointer none, .pointer none] 282) • blk pol (.cells #[.slice (some ⟨g1, 0, none⟩) 1 d1, .slice (some ⟨g2, 0, none⟩) 3 d2, .pointer (some ⟨tl, 0, none⟩), .pointer (some ⟨tb, 0, none⟩)] 176) • arr 36 17 (.slice (some ⟨g1, 0, none⟩) 1 d1) 1 srvA • F)))).2.1
  have hst : ∀ z : Array Value, z.size = 24 → (Instr.storeAt 170 (.pointer (some ⟨u1.heap.size, 0, none⟩)) (.agg pol2.toArray)).run Tryz.prog (u1.alloc (.cells z 170)) = .ok () (u1.alloc (.cells pol2.toArray 170)) :=
    fun z hz => run_storeAt_new (v := .agg pol2.toArray) (by kernel_rfl) (by rw [hz]; rfl) (by decide)
  have hV1 := hT1.alloc (.cells pol2.toArray 170)
  have hP1 : pol2.toArray[1]? = some (.string ⟨#[98, 46, 97]⟩) := rfl
  have hP2 : pol2.toArray[2]? = some (.bool false) := rfl
  have dn : (u1.alloc (.cells pol2.toArray 170)).cell? ⟨u1.heap.size, 1, none⟩ = some (.string ⟨#[98, 46, 97]⟩) := cell_heap hV1.heap hP1
  generalize hPK : pol2.toArray = PK at *
  go_wp2_with (first | (refine wpList_load_run (t := 170) rfl rfl rfl hl1 ?_) | (refine wpList_store_run (t := 170) rfl rfl rfl rfl (hst _ rfl) (stop_ ?_)))
  unfold Stop
  clear hst hl1
  go_wp2_with fail
  try go_frame
  generalize hxb : u1.heap.size = xb at *
  have hA1 := (hV1.drew.to (by ac_rfl : _ = blk tl (.cells #[.pointer (some ⟨nb, 0, none⟩), .int .i64 1] 278) • blk nb (.cells #[.slice none 0 0, .slice none 0 0, .map (some m)] 276) • blk m (.map #[{ key := .string ⟨#[97]⟩, val := .pointer (some ⟨n1, 0, none⟩), born := 0 }] 1) • blk n1 (.cells #[.slice none 0 0, sl, .map none] 276) • (blk xb (.cells PK 170) • blk tb (.cells #[.pointer (some ⟨n4, 0, none⟩), .pointer (some ⟨n6, 0, none⟩), .int .i64 0] 284) • blk n4 (.cells #[.slice none 0 0, .pointer none, .pointer none] 282) • blk pol (.cells #[.slice (some ⟨g1, 0, none⟩) 1 d1, .slice (some ⟨g2, 0, none⟩) 3 d2, .pointer (some ⟨tl, 0, none⟩), .pointer (some ⟨tb, 0, none⟩)] 176) • arr 36 17 (.slice (some ⟨g1, 0, none⟩) 1 d1) 1 srvA • arr 170 24 (.slice (some ⟨g2, 0, none⟩) 3 d2) 3 pols • F)))
  refine wp_region_ord [(0, .pure), (1, .pure), (2, .pure), (3, .quiet), (4, .pure), (5, .quiet), (6, .pure), (7, .quiet), (8, .pure), (9, .seals)] (by kernel_rfl) (by kernel_rfl)
    (fun w' => w'.heap[pol]? = some (.cells #[.slice (some ⟨g1, 0, none⟩) 1 d1, .slice (some ⟨g2, 0, none⟩) 3 d2, .pointer (some ⟨tl, 0, none⟩), .pointer (some ⟨tb, 0, none⟩)] 176) ∧ w'.heap[xb]? = some (.cells PK 170)) ⟨hV1.drew.drop.drop.drop.drop.drop.drop.drop.heap, hV1.drew.heap⟩ ?_
  iterate 3 (refine ord_pure rfl rfl rfl (fun K' hK => ?_); go_big_quiet_op; refine hK _ ?_; clear hK K')
  refine ord_load (t := 171) rfl rfl rfl (p := .pointer (some ⟨pol, 2, none⟩)) (v := .pointer (some ⟨tl, 0, none⟩)) rfl (fun w' hC => run_loadAt_one hC.1 Tryz.underlying171 rfl rfl) (fun K' hK => ?_)
  go_simp
  refine hK _ ?_
  clear hK K'
  iterate 1 (refine ord_pure rfl rfl rfl (fun K' hK => ?_); go_big_quiet_op; refine hK _ ?_; clear hK K')
  refine ord_load (t := 9) rfl rfl rfl (p := .pointer (some ⟨xb, 1, none⟩)) (v := .string ⟨#[98, 46, 97]⟩) rfl (fun w' hC => run_loadAt_one hC.2 Tryz.underlying9 rfl hP1) (fun K' hK => ?_)
  go_simp
  refine hK _ ?_
  clear hK K'
  iterate 1 (refine ord_pure rfl rfl rfl (fun K' hK => ?_); go_big_quiet_op; refine hK _ ?_; clear hK K')
  refine ord_load (t := 4) rfl rfl rfl (p := .pointer (some ⟨xb, 2, none⟩)) (v := .bool false) rfl (fun w' hC => run_loadAt_one hC.2 Tryz.underlying4 rfl hP2) (fun K' hK => ?_)
  go_simp
  refine hK _ ?_
  clear hK K'
  iterate 1 (refine ord_pure rfl rfl rfl (fun K' hK => ?_); go_big_quiet_op; refine hK _ ?_; clear hK K')
  refine ord_seals rfl rfl (fun K' hK => ?_)
  go_simp
  refine (labAdd_b hA1 (hA1.mx hB hM)).mono ?_
  rintro e u2 ⟨rfl, hU⟩
  refine hK (fun _ => True) _ _ trivial ?_
  clear hK K'
  go_simp
  refine ord_nil ?_
  have hT2 := hU.drop
  clear hU hA1 hV1 hP1 hP2 dn hT1 hPK
  generalize xb = xb1 at *
  go_wp2_with fail
  rw [rounds_succ]
  have hl1 := (hldr _ _ (hT2.to (by ac_rfl : _ = arr 170 24 (.slice (some ⟨g2, 0, none⟩) 3 d2) 3 pols • (blk tb (.cells #[.pointer (some ⟨n4, 0, none⟩), .pointer (some ⟨n6, 0, none⟩), .int .i64 0] 284) • blk n4 (.cells #[.slice none 0 0, .pointer none, .pointer none] 282) • blk pol (.cells #[.slice (some ⟨g1, 0, none⟩) 1 d1, .slice (some ⟨g2, 0, none⟩) 3 d2, .pointer (some ⟨tl, 0, none⟩), .pointer (some ⟨tb, 0, none⟩)] 176) • arr 36 17 (.slice (some ⟨g1, 0, none⟩) 1 d1) 1 srvA • F)))).2.2
  have hst : ∀ z : Array Value, z.size = 24 → (Instr.storeAt 170 (.pointer (some ⟨u2.heap.size, 0, none⟩)) (.agg pol3.toArray)).run Tryz.prog (u2.alloc (.cells z 170)) = .ok () (u2.alloc (.cells pol3.toArray 170)) :=
    fun z hz => run_storeAt_new (v := .agg pol3.toArray) (by kernel_rfl) (by rw [hz]; rfl) (by decide)
  have hV2 := hT2.alloc (.cells pol3.toArray 170)
  have hP1 : pol3.toArray[1]? = some (.string ⟨#[]⟩) := rfl
  have hP2 : pol3.toArray[2]? = some (.bool false) := rfl
  have hP3 : ∀ W : World, W.heap[u2.heap.size]? = some (.cells pol3.toArray 170) → (Instr.loadAt 168 (.pointer (some ⟨u2.heap.size, 3, none⟩))).run Tryz.prog W = .ok (.agg #[.bool false, .int .u8 10, .int .u8 0, .int .u8 0, .int .u8 0, .int .u8 0, .int .u8 0, .int .u8 0, .int .u8 0, .int .u8 0, .int .u8 0, .int .u8 0, .int .u8 0, .int .u8 0, .int .u8 0, .int .u8 0, .int .u8 0, .int .i64 8]) W := fun W hW =>
    run_loadAt_row (cs := [.bool false, .int .u8 10, .int .u8 0, .int .u8 0, .int .u8 0, .int .u8 0, .int .u8 0, .int .u8 0, .int .u8 0, .int .u8 0, .int .u8 0, .int .u8 0, .int .u8 0, .int .u8 0, .int .u8 0, .int .u8 0, .int .u8 0, .int .i64 8]) hW Tryz.underlying168 rfl (by kernel_rfl) (fun j u hu => by rw [← hu]; exact pol_net3 j (List.getElem?_eq_some_iff.1 hu).1)
  have dn : (u2.alloc (.cells pol3.toArray 170)).cell? ⟨u2.heap.size, 1, none⟩ = some (.string ⟨#[]⟩) := cell_heap hV2.heap hP1
  generalize hPK : pol3.toArray = PK at *
  go_wp2_with (first | (refine wpList_load_run (t := 170) rfl rfl rfl hl1 ?_) | (refine wpList_store_run (t := 170) rfl rfl rfl rfl (hst _ rfl) (stop_ ?_)))
  unfold Stop
  clear hst hl1
  go_wp2_with fail
  try go_frame
  generalize hxb : u2.heap.size = xb at *
  have hA2 := (hV2.drew.to (by ac_rfl : _ = blk tb (.cells #[.pointer (some ⟨n4, 0, none⟩), .pointer (some ⟨n6, 0, none⟩), .int .i64 0] 284) • blk n4 (.cells #[.slice none 0 0, .pointer none, .pointer none] 282) • (blk xb (.cells PK 170) • blk pol (.cells #[.slice (some ⟨g1, 0, none⟩) 1 d1, .slice (some ⟨g2, 0, none⟩) 3 d2, .pointer (some ⟨tl, 0, none⟩), .pointer (some ⟨tb, 0, none⟩)] 176) • arr 36 17 (.slice (some ⟨g1, 0, none⟩) 1 d1) 1 srvA • arr 170 24 (.slice (some ⟨g2, 0, none⟩) 3 d2) 3 pols • F)))
  refine wp_region_ord [(0, .pure), (1, .pure), (2, .pure), (3, .quiet), (4, .pure), (5, .quiet), (6, .pure), (7, .seals), (8, .pure)] (by kernel_rfl) (by kernel_rfl)
    (fun w' => w'.heap[pol]? = some (.cells #[.slice (some ⟨g1, 0, none⟩) 1 d1, .slice (some ⟨g2, 0, none⟩) 3 d2, .pointer (some ⟨tl, 0, none⟩), .pointer (some ⟨tb, 0, none⟩)] 176) ∧ w'.heap[xb]? = some (.cells PK 170)) ⟨hV2.drew.drop.drop.drop.heap, hV2.drew.heap⟩ ?_
  iterate 3 (refine ord_pure rfl rfl rfl (fun K' hK => ?_); go_big_quiet_op; refine hK _ ?_; clear hK K')
  refine ord_load (t := 173) rfl rfl rfl (p := .pointer (some ⟨pol, 3, none⟩)) (v := .pointer (some ⟨tb, 0, none⟩)) rfl (fun w' hC => run_loadAt_one hC.1 Tryz.underlying173 rfl rfl) (fun K' hK => ?_)
  go_simp
  refine hK _ ?_
  clear hK K'
  iterate 1 (refine ord_pure rfl rfl rfl (fun K' hK => ?_); go_big_quiet_op; refine hK _ ?_; clear hK K')
  refine ord_load (t := 168) rfl rfl rfl (p := .pointer (some ⟨xb, 3, none⟩)) (v := .agg #[.bool false, .int .u8 10, .int .u8 0, .int .u8 0, .int .u8 0, .int .u8 0, .int .u8 0, .int .u8 0, .int .u8 0, .int .u8 0, .int .u8 0, .int .u8 0, .int .u8 0, .int .u8 0, .int .u8 0, .int .u8 0, .int .u8 0, .int .i64 8]) rfl (fun w' hC => hP3 _ hC.2) (fun K' hK => ?_)
  go_simp
  refine hK _ ?_
  clear hK K'
  iterate 1 (refine ord_pure rfl rfl rfl (fun K' hK => ?_); go_big_quiet_op; refine hK _ ?_; clear hK K')
  refine ord_seals rfl rfl (fun K' hK => ?_)
  go_simp
  refine (bitsAdd_8 hA2 (hA2.et (by omega) hE)).mono ?_
  rintro e u3 ⟨rfl, A, c, x1, x2, x3, x4, x5, x6, x7, x8, hU⟩
  refine hK (fun _ => True) _ _ trivial ?_
  clear hK K'
  go_simp
  iterate 1 (refine ord_pure rfl rfl rfl (fun K' hK => ?_); go_big_quiet_op; refine hK _ ?_; clear hK K')
  refine ord_nil ?_
  have hfin := (hU.trie_shut.to (by ac_rfl : _ = blk xb (.cells PK 170) • (blk pol (.cells #[.slice (some ⟨g1, 0, none⟩) 1 d1, .slice (some ⟨g2, 0, none⟩) 3 d2, .pointer (some ⟨tl, 0, none⟩), .pointer (some ⟨tb, 0, none⟩)] 176) • arr 36 17 (.slice (some ⟨g1, 0, none⟩) 1 d1) 1 srvA • arr 170 24 (.slice (some ⟨g2, 0, none⟩) 3 d2) 3 pols • trieH tb • F))).drop.pol_shut
  have HF := Lib.hid hfin
  clear hfin hU hA2 hV2 hT2 hldr hP1 hP2 hP3 dn hPK
  go_wp2_with fail
  refine (is_nil 1 _).mono ?_
  rintro e u4 ⟨rfl, rfl⟩
  go_wp2_with fail
  rw [rounds_succ]
  go_wp2_with fail
  go_ret2
  exact ⟨pol, rfl, HF.out⟩
end Go.Proofs.YtdcekoocnoackaaGreatDoor
