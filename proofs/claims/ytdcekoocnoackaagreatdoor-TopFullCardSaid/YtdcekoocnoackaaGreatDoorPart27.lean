import Derived.Test.YtdcekoocnoackaaGreatDoorPart26
import Derived.Test.YtdcekoocnoackaaGreatDoorPart23
import Derived.Test.YtdcekoocnoackaaGreatDoorPart17
import Derived.Test.YtdcekoocnoackaaGreatDoorPart08
import Derived.MapKept

/-! rule.Right. -/
namespace Go.Proofs.YtdcekoocnoackaaGreatDoor
open Go Go.RowKit

def pols : List Value := pol1 ++ pol2 ++ pol3
theorem pols_at1 (j : Nat) (u : Value) (h : pol1[j]? = some u) : pols[0 + j]? = some u := by
  rw [← h]
  have hj : j < 24 := (List.getElem?_eq_some_iff.1 h).1
  match j, hj with
  | 0, _ => rfl
  | 1, _ => rfl
  | 2, _ => rfl
  | 3, _ => rfl
  | 4, _ => rfl
  | 5, _ => rfl
  | 6, _ => rfl
  | 7, _ => rfl
  | 8, _ => rfl
  | 9, _ => rfl
  | 10, _ => rfl
  | 11, _ => rfl
  | 12, _ => rfl
  | 13, _ => rfl
  | 14, _ => rfl
  | 15, _ => rfl
  | 16, _ => rfl
  | 17, _ => rfl
  | 18, _ => rfl
  | 19, _ => rfl
  | 20, _ => rfl
  | 21, _ => rfl
  | 22, _ => rfl
  | 23, _ => rfl
  | (j + 24), h => omega
set_option maxRecDepth 8000 in
set_option maxHeartbeats 1000000 in
theorem rright1 (w : World) (hm : Mx w) : Calls Tryz.prog 133 #[.agg pol1.toArray] w fun e w' => e = .returned (.bool false) ∧ Below w.heap.size w w' := by
  have hS := (Sat.start w).alloc (.cells pol1.toArray 170)
  have hB := hS.below
  have hl : (Instr.loadAt 170 (.pointer (some ⟨w.heap.size, 0, none⟩))).run Tryz.prog (w.alloc (.cells pol1.toArray 170)) = .ok (.agg pol1.toArray) (w.alloc (.cells pol1.toArray 170)) :=
    run_loadAt_row (cs := pol1) hS.heap Tryz.underlying170 rfl (by kernel_rfl) (fun j u hu => by simpa using hu)
  have c1 := may_1 _ (hm.below hB)
  generalize pol1.toArray = PA at *
  clear hS hm
  go_enter Tryz.func133, Tryz.ntmps133
  go_wp2_with (refine wpList_load_run (t := 170) rfl rfl rfl hl (stop_ ?_))
  unfold Stop
  go_wp2_with fail
  refine c1.mono ?_
  rintro e w2 ⟨rfl, hb⟩
  go_wp2_with fail
  go_ret
  exact ⟨rfl, hB.trans (hb.mono hB.size)⟩
theorem pols_at2 (j : Nat) (u : Value) (h : pol2[j]? = some u) : pols[24 + j]? = some u := by
  rw [← h]
  have hj : j < 24 := (List.getElem?_eq_some_iff.1 h).1
  match j, hj with
  | 0, _ => rfl
  | 1, _ => rfl
  | 2, _ => rfl
  | 3, _ => rfl
  | 4, _ => rfl
  | 5, _ => rfl
  | 6, _ => rfl
  | 7, _ => rfl
  | 8, _ => rfl
  | 9, _ => rfl
  | 10, _ => rfl
  | 11, _ => rfl
  | 12, _ => rfl
  | 13, _ => rfl
  | 14, _ => rfl
  | 15, _ => rfl
  | 16, _ => rfl
  | 17, _ => rfl
  | 18, _ => rfl
  | 19, _ => rfl
  | 20, _ => rfl
  | 21, _ => rfl
  | 22, _ => rfl
  | 23, _ => rfl
  | (j + 24), h => omega
set_option maxRecDepth 8000 in
set_option maxHeartbeats 1000000 in
theorem rright2 (w : World) (hm : Mx w) : Calls Tryz.prog 133 #[.agg pol2.toArray] w fun e w' => e = .returned (.bool false) ∧ Below w.heap.size w w' := by
  have hS := (Sat.start w).alloc (.cells pol2.toArray 170)
  have hB := hS.below
  have hl : (Instr.loadAt 170 (.pointer (some ⟨w.heap.size, 0, none⟩))).run Tryz.prog (w.alloc (.cells pol2.toArray 170)) = .ok (.agg pol2.toArray) (w.alloc (.cells pol2.toArray 170)) :=
    run_loadAt_row (cs := pol2) hS.heap Tryz.underlying170 rfl (by kernel_rfl) (fun j u hu => by simpa using hu)
  have c1 := may_2 _ (hm.below hB)
  generalize pol2.toArray = PA at *
  clear hS hm
  go_enter Tryz.func133, Tryz.ntmps133
  go_wp2_with (refine wpList_load_run (t := 170) rfl rfl rfl hl (stop_ ?_))
  unfold Stop
  go_wp2_with fail
  refine c1.mono ?_
  rintro e w2 ⟨rfl, hb⟩
  go_wp2_with fail
  go_ret
  exact ⟨rfl, hB.trans (hb.mono hB.size)⟩
theorem pols_at3 (j : Nat) (u : Value) (h : pol3[j]? = some u) : pols[48 + j]? = some u := by
  rw [← h]
  have hj : j < 24 := (List.getElem?_eq_some_iff.1 h).1
  match j, hj with
  | 0, _ => rfl
  | 1, _ => rfl
  | 2, _ => rfl
  | 3, _ => rfl
  | 4, _ => rfl
  | 5, _ => rfl
  | 6, _ => rfl
  | 7, _ => rfl
  | 8, _ => rfl
  | 9, _ => rfl
  | 10, _ => rfl
  | 11, _ => rfl
  | 12, _ => rfl
  | 13, _ => rfl
  | 14, _ => rfl
  | 15, _ => rfl
  | 16, _ => rfl
  | 17, _ => rfl
  | 18, _ => rfl
  | 19, _ => rfl
  | 20, _ => rfl
  | 21, _ => rfl
  | 22, _ => rfl
  | 23, _ => rfl
  | (j + 24), h => omega
set_option maxRecDepth 8000 in
set_option maxHeartbeats 1000000 in
theorem rright3 (w : World) (hm : Mx w) : Calls Tryz.prog 133 #[.agg pol3.toArray] w fun e w' => e = .returned (.bool false) ∧ Below w.heap.size w w' := by
  have hS := (Sat.start w).alloc (.cells pol3.toArray 170)
  have hB := hS.below
  have hl : (Instr.loadAt 170 (.pointer (some ⟨w.heap.size, 0, none⟩))).run Tryz.prog (w.alloc (.cells pol3.toArray 170)) = .ok (.agg pol3.toArray) (w.alloc (.cells pol3.toArray 170)) :=
    run_loadAt_row (cs := pol3) hS.heap Tryz.underlying170 rfl (by kernel_rfl) (fun j u hu => by simpa using hu)
  have c1 := may_3 _ (hm.below hB)
  generalize pol3.toArray = PA at *
  clear hS hm
  go_enter Tryz.func133, Tryz.ntmps133
  go_wp2_with (refine wpList_load_run (t := 170) rfl rfl rfl hl (stop_ ?_))
  unfold Stop
  go_wp2_with fail
  refine c1.mono ?_
  rintro e w2 ⟨rfl, hb⟩
  go_wp2_with fail
  go_ret
  exact ⟨rfl, hB.trans (hb.mono hB.size)⟩
theorem pols_load {B : Nat} {w0 : World} {F : HP} {A : Option Addr} {c : Nat} {w : World} (h : Sat B w0 w (arr 170 24 (.slice A 3 c) 3 pols • F)) : ∃ g, A = some ⟨g, 0, none⟩ ∧ ∀ W, Below w.heap.size w W →
    (Instr.loadAt 170 (.pointer (some ⟨g, 0, none⟩))).run Tryz.prog W = .ok (.agg pol1.toArray) W ∧ (Instr.loadAt 170 (.pointer (some ⟨g, 24, none⟩))).run Tryz.prog W = .ok (.agg pol2.toArray) W ∧ (Instr.loadAt 170 (.pointer (some ⟨g, 48, none⟩))).run Tryz.prog W = .ok (.agg pol3.toArray) W := by
  rcases h.arr_open with ⟨_, h0, _, _⟩ | ⟨g, cap, cur, hv, _⟩
  · cases h0
  · simp only [Value.slice.injEq] at hv
    obtain ⟨rfl, _, rfl⟩ := hv
    refine ⟨g, rfl, fun W hW => ?_⟩
    have hr : ∀ (j : Nat) (u : Value), pols[j]? = some u → W.cell? ⟨g, j, none⟩ = some u := by
      intro j u hu
      rcases (h.below_ hW).arr_reads with ⟨_, h1, _, _⟩ | ⟨a, c', hv', hc⟩
      · cases h1
      · cases hv'
        have := hc j u hu
        rw [Addr.add_lit] at this
        simpa using this
    refine ⟨run_loadAt_cells (cs := pol1) Tryz.underlying170 rfl (by kernel_rfl) (fun j u hu => ?_), run_loadAt_cells (cs := pol2) Tryz.underlying170 rfl (by kernel_rfl) (fun j u hu => ?_), run_loadAt_cells (cs := pol3) Tryz.underlying170 rfl (by kernel_rfl) (fun j u hu => ?_)⟩
    · rw [Addr.add_lit]; exact hr _ _ (pols_at1 j u hu)
    · rw [Addr.add_lit]; exact hr _ _ (pols_at2 j u hu)
    · rw [Addr.add_lit]; exact hr _ _ (pols_at3 j u hu)
set_option maxRecDepth 8000 in
set_option maxHeartbeats 2000000 in
theorem indexR_pols {B : Nat} {w0 w : World} {F : HP} {A : Option Addr} {c : Nat} (h : Sat B w0 w (arr 170 24 (.slice A 3 c) 3 pols • F)) (hm : Mx w) :
    Calls Tryz.prog 199 #[.slice A 3 c, .func (.func 133) #[] #[]] w fun e w' => e = .returned (.int .i64 (-1)) ∧ Below w.heap.size w w' := by
  obtain ⟨g, rfl, hld⟩ := pols_load h
  have eg := enters_of Tryz.func133 (by kernel_rfl) rfl
  have hb0 : Below w.heap.size w w := Below.refl _ _
  clear h
  go_enter Tryz.func199, Tryz.ntmps199
  go_wp2_with fail
  refine wp_loop_rounds 4 ?_
  rw [rounds_succ]
  have hl := (hld _ hb0).1
  go_wp2_with (refine wpList_load_run (t := 170) rfl rfl rfl hl (stop_ ?_))
  unfold Stop
  clear hl
  go_wp2_with fail
  refine (rright1 _ (hm.below hb0)).mono ?_
  rintro e w1 ⟨rfl, hc1⟩
  go_wp2_with fail
  have hb1 := hb0.trans (hc1.mono hb0.size)
  clear hc1
  rw [rounds_succ]
  have hl := (hld _ hb1).2.1
  go_wp2_with (refine wpList_load_run (t := 170) rfl rfl rfl hl (stop_ ?_))
  unfold Stop
  clear hl
  go_wp2_with fail
  refine (rright2 _ (hm.below hb1)).mono ?_
  rintro e w2 ⟨rfl, hc2⟩
  go_wp2_with fail
  have hb2 := hb1.trans (hc2.mono hb1.size)
  clear hc2
  rw [rounds_succ]
  have hl := (hld _ hb2).2.2
  go_wp2_with (refine wpList_load_run (t := 170) rfl rfl rfl hl (stop_ ?_))
  unfold Stop
  clear hl
  go_wp2_with fail
  refine (rright3 _ (hm.below hb2)).mono ?_
  rintro e w3 ⟨rfl, hc3⟩
  go_wp2_with fail
  have hb3 := hb2.trans (hc3.mono hb2.size)
  clear hc3
  rw [rounds_succ]
  go_wp2_with fail
  go_ret
  exact ⟨rfl, hb3⟩
set_option maxRecDepth 8000 in
set_option maxHeartbeats 1000000 in
theorem hasR_pols {B : Nat} {w0 w : World} {F : HP} {A : Option Addr} {c : Nat} (h : Sat B w0 w (arr 170 24 (.slice A 3 c) 3 pols • F)) (hm : Mx w) :
    Calls Tryz.prog 132 #[.slice A 3 c, .func (.func 133) #[] #[]] w fun e w' => e = .returned (.bool false) ∧ Below w.heap.size w w' := by
  have c1 := indexR_pols h hm
  go_enter Tryz.func132, Tryz.ntmps132
  go_wp2_with fail
  refine c1.mono ?_
  rintro e w1 ⟨rfl, hb⟩
  go_wp2_with fail
  go_ret
  exact ⟨rfl, hb⟩
set_option maxRecDepth 8000 in
theorem indexA_zero (a : Array Value) (A : Option Addr) (c : Nat) (w : World) : Calls Tryz.prog 177 #[.slice A 0 c, .agg a] w fun e w' => e = .returned (.int .i64 (-1)) ∧ Below w.heap.size w w' := by
  have hB := ((Sat.start w).alloc (.cells a 36)).below
  go_enter Tryz.func177, Tryz.ntmps177
  go_wp2_with fail
  refine wp_loop_rounds 1 ?_
  rw [rounds_succ]
  go_wp2_with fail
  go_ret
  exact ⟨rfl, hB⟩
set_option maxRecDepth 8000 in
theorem containsA_zero (a : Array Value) (ha : a.size = 17) (A : Option Addr) (c : Nat) (w : World) : Calls Tryz.prog 117 #[.slice A 0 c, .agg a] w fun e w' => e = .returned (.bool false) ∧ Below w.heap.size w w' := by
  have hS := (Sat.start w).alloc (.cells a 36)
  have hB := hS.below
  have hl : (Instr.loadAt 36 (.pointer (some ⟨w.heap.size, 0, none⟩))).run Tryz.prog (w.alloc (.cells a 36)) = .ok (.agg a) (w.alloc (.cells a 36)) :=
    run_loadAt_row (cs := a.toList) hS.heap Tryz.underlying36 rfl (by rw [Array.length_toList, ha]; kernel_rfl) (fun j u hu => by simpa using hu)
  have c1 := indexA_zero a A c (w.alloc (.cells a 36))
  clear hS
  go_enter Tryz.func117, Tryz.ntmps117
  go_wp2_with (refine wpList_load_run (t := 36) rfl rfl rfl hl (stop_ ?_))
  unfold Stop
  go_wp2_with fail
  refine c1.mono ?_
  rintro e w2 ⟨rfl, hb⟩
  go_wp2_with fail
  go_ret
  exact ⟨rfl, hB.trans (hb.mono hB.size)⟩
theorem Sat.arr_shape {B : Nat} {w0 w : World} {F : HP} {e : TypeId} {sz : Nat} {A : Option Addr} {n c : Nat} {xs : List Value} (h : Sat B w0 w (arr e sz (.slice A (n + 1) c) (n + 1) xs • F)) : ∃ g, A = some ⟨g, 0, none⟩ ∧ n + 1 ≤ c ∧ B ≤ g ∧ ∀ W, Below w.heap.size w W → ∀ (j : Nat) (u : Value), xs[j]? = some u → W.cell? ⟨g, j, none⟩ = some u := by
  rcases h.arr_open with ⟨_, h0, _, _⟩ | ⟨g, cap, cur, hv, q1, q2, q3, q4, hO⟩
  · omega
  · simp only [Value.slice.injEq] at hv
    obtain ⟨rfl, _, rfl⟩ := hv
    refine ⟨g, rfl, q1, hO.ge, fun W hW j u hu => ?_⟩
    rcases (h.below_ hW).arr_reads with ⟨_, h1, h2, _⟩ | ⟨a, c', hv', hc⟩
    · omega
    · cases hv'
      have := hc j u hu
      rw [Addr.add_lit] at this
      simpa using this
attribute [local irreducible] wpOrd
set_option maxRecDepth 8000 in
set_option maxHeartbeats 4000000 in
theorem rright_any {B : Nat} {w0 w : World} {F : HP} {As Ar : Option Addr} {cs cr : Nat} (hB : 1 < B) (hM : Mx w0) (h : Sat B w0 w (arr 170 24 (.slice Ar 3 cr) 3 pols • arr 36 17 (.slice As 1 cs) 1 srvA • F)) :
    Calls Tryz.prog 64 #[.agg #[.slice As 1 cs, .slice Ar 3 cr]] w fun e w' => e = .returned (.bool true) ∧ Sat B w0 w' (arr 170 24 (.slice Ar 3 cr) 3 pols • arr 36 17 (.slice As 1 cs) 1 srvA • F) := by
  obtain ⟨ga, rfl, hcs, _, hca⟩ := h.drop.arr_shape
  have hS1 := h.alloc (.cells #[.slice (some ⟨ga, 0, none⟩) 1 cs, .slice Ar 3 cr] 88)
  have hSA : srvA.toArray.size = 17 := rfl
  have hl1 : (Instr.loadAt 36 (.pointer (some ⟨ga, 0, none⟩))).run Tryz.prog (w.alloc (.cells #[.slice (some ⟨ga, 0, none⟩) 1 cs, .slice Ar 3 cr] 88)) = .ok (.agg srvA.toArray) (w.alloc (.cells #[.slice (some ⟨ga, 0, none⟩) 1 cs, .slice Ar 3 cr] 88)) :=
    run_loadAt_cells (cs := srvA) Tryz.underlying36 rfl (by kernel_rfl) (fun j u hu => by rw [Addr.add_lit, Nat.zero_add]; exact hca _ ((Below.refl _ _).alloc (Nat.le_refl _) _) j u hu)
  have c1 : ∀ W, Calls Tryz.prog 131 #[.agg srvA.toArray] W fun e w' => e = .returned (.bool true) ∧ Below W.heap.size W w' := fun W => aright_4 9 9 9 9 W
  generalize hq : w.heap.size = q at *
  have d0 : (w.alloc (.cells #[.slice (some ⟨ga, 0, none⟩) 1 cs, .slice Ar 3 cr] 88)).cell? ⟨q, 0, none⟩ = some (.slice (some ⟨ga, 0, none⟩) 1 cs) := cell_heap hS1.heap rfl
  have d1 : (w.alloc (.cells #[.slice (some ⟨ga, 0, none⟩) 1 cs, .slice Ar 3 cr] 88)).cell? ⟨q, 1, none⟩ = some (.slice Ar 3 cr) := cell_heap hS1.heap rfl
  generalize hW1 : w.alloc (.cells #[.slice (some ⟨ga, 0, none⟩) 1 cs, .slice Ar 3 cr] 88) = W1 at *
  have hst : ∀ z : Array Value, z.size = 17 → (Instr.storeAt 36 (.pointer (some ⟨W1.heap.size, 0, none⟩)) (.agg srvA.toArray)).run Tryz.prog (W1.alloc (.cells z 36)) = .ok () (W1.alloc (.cells srvA.toArray 36)) :=
    fun z hz => run_storeAt_new (v := .agg srvA.toArray) (by kernel_rfl) (by rw [hz]; rfl) (by decide)
  have hS2 := hS1.alloc (.cells srvA.toArray 36)
  have hld : ∀ W : World, W.heap[W1.heap.size]? = some (.cells srvA.toArray 36) → (Instr.loadAt 36 (.pointer (some ⟨W1.heap.size, 0, none⟩))).run Tryz.prog W = .ok (.agg srvA.toArray) W := fun W hW =>
    run_loadAt_row (cs := srvA) hW Tryz.underlying36 rfl (by kernel_rfl) (fun j u hu => by simpa using hu)
  have HX : Hid (arr 36 17 (.slice (some ⟨ga, 0, none⟩) 1 cs) 1 srvA = arr 36 17 (.slice (some ⟨ga, 0, none⟩) 1 cs) 1 srvA) := Lib.hid rfl
  generalize hX : arr 170 24 (.slice Ar 3 cr) 3 pols • arr 36 17 (.slice (some ⟨ga, 0, none⟩) 1 cs) 1 srvA • F = X at *
  have HXX := Lib.hid hX
  clear hX HX
  generalize srvA.toArray = SA at *
  clear hca h hS1
  have e9 : (0 : Int) < 1 := by decide
  go_enter Tryz.func64, Tryz.ntmps64
  go_wp2_with fail
  refine wp_loop_rounds 2 ?_
  rw [rounds_succ]
  go_wp2_with (first | (refine wpList_load_run (t := 36) rfl rfl rfl hl1 ?_) | (refine wpList_store_run (t := 36) rfl rfl rfl rfl (hst _ rfl) (stop_ ?_)))
  unfold Stop
  clear hst hl1
  go_wp2_with fail
  try go_frame
  generalize hab : W1.heap.size = ab at *
  refine wp_region_ord [(0, .quiet), (1, .acts), (2, .pure), (3, .pure), (4, .pure), (5, .quiet), (6, .pure), (7, .pure), (8, .quiet), (9, .acts), (10, .pure)] (by kernel_rfl) (by kernel_rfl)
    (fun w' => Sat B w0 w' (blk ab (.cells SA 36) • blk q (.cells #[.slice (some ⟨ga, 0, none⟩) 1 cs, .slice Ar 3 cr] 88) • X)) hS2.drew ?_
  refine ord_load (t := 36) rfl rfl rfl (p := .pointer (some ⟨ab, 0, none⟩)) (v := .agg SA) rfl (fun w' hC => hld _ hC.heap) (fun K' hK => ?_)
  go_simp
  refine hK _ ?_
  clear hK K'
  refine ord_acts rfl rfl (fun K' hK => ?_)
  go_simp
  refine (c1 _).mono ?_
  rintro e w3 ⟨rfl, hb3⟩
  have hS3 := hS2.drew.below_ hb3
  refine hK _ _ (hS3) ?_
  clear hK K'
  go_simp
  iterate 3 (refine ord_pure rfl rfl rfl (fun K' hK => ?_); go_big_quiet_op; refine hK _ ?_; clear hK K')
  refine ord_load (t := 85) rfl rfl rfl (p := .pointer (some ⟨q, 0, none⟩)) (v := .slice (some ⟨ga, 0, none⟩) 1 cs) rfl (fun w' hC => run_loadAt_one hC.pull2.heap Tryz.underlying85 rfl rfl) (fun K' hK => ?_)
  go_simp
  refine hK _ ?_
  clear hK K'
  iterate 2 (refine ord_pure rfl rfl rfl (fun K' hK => ?_); go_big_quiet_op; refine hK _ ?_; clear hK K')
  refine ord_load (t := 36) rfl rfl rfl (p := .pointer (some ⟨ab, 0, none⟩)) (v := .agg SA) rfl (fun w' hC => hld _ hC.heap) (fun K' hK => ?_)
  go_simp
  refine hK _ ?_
  clear hK K'
  refine ord_acts rfl rfl (fun K' hK => ?_)
  go_simp
  refine (containsA_zero SA hSA _ _ _).mono ?_
  rintro e w4 ⟨rfl, hb4⟩
  have hS4 := hS3.below_ hb4
  refine hK _ _ (hS4) ?_
  clear hK K'
  go_simp
  iterate 1 (refine ord_pure rfl rfl rfl (fun K' hK => ?_); go_big_quiet_op; refine hK _ ?_; clear hK K')
  refine ord_nil ?_
  clear d0 d1 hS2 hS3 hb3 hb4
  have d1 : w4.cell? ⟨q, 1, none⟩ = some (.slice Ar 3 cr) := cell_heap hS4.pull2.heap rfl
  have hS5 := hS4.drop.drop
  rw [← HXX.out] at hS5
  have c5 := hasR_pols hS5 (hS5.mx hB hM)
  clear hS4
  go_wp2_with fail
  rw [rounds_succ]
  go_wp2_with fail
  refine c5.mono ?_
  rintro e w5 ⟨rfl, hb5⟩
  have hS6 := hS5.below_ hb5
  clear hS5 c5 hb5
  go_wp2_with fail
  go_ret
  exact ⟨rfl, by rw [HXX.out] at hS6; exact hS6⟩
end Go.Proofs.YtdcekoocnoackaaGreatDoor

/-! labels: way, New, Add at the names of the text. -/
namespace Go.Proofs.YtdcekoocnoackaaGreatDoor
open Go Go.RowKit Go.MapKept

section
variable {B : Nat} {w0 w w' : World} {F : HP}
theorem grownBy_setObjL (w : World) (b : Nat) (o : Obj) : w.grownBy { w with heap := w.heap.setIfInBounds b o } (some b) :=
  ⟨rfl, rfl, rfl, by simp, fun j _ hne => by
    have : j ≠ b := fun e => hne (by rw [e])
    simp [Ne.symm this]⟩
theorem Sat.setObjL {o o' : Obj} {b : Nat} (h : Sat B w0 w (blk b o • F)) : Sat B w0 { w with heap := w.heap.setIfInBounds b o' } (blk b o' • F) :=
  h.put (grownBy_setObjL w b o') (heap_set h.heap).1
/-- A map from texts to nodes: what is not there, and what is. -/
theorem lab_no {b : Nat} {es : Array MapEntry} {clk : Nat} {k : ByteArray} (hb : w.heap[b]? = some (.map es clk)) (hf : Instr.findNow .string (.string k) es.toList 0 = some none) :
    (Instr.lookup 274 (.map (some b)) (.string k) false).run Tryz.prog w = .ok (.pointer none) w := by
  have hm := Tryz.underlying274
  have hk := Tryz.underlying9
  have hkk : IsKey .string (.string k) := trivial
  have hz : ∀ w, (zeroValue 273).run Tryz.prog w = .ok (.pointer none) w := fun w => by kernel_rfl
  simp [Instr.lookup, run_underlying hm, Go.MapKept.run_getObj_map hb, Go.MapKept.run_checkKey hk hkk, Go.MapKept.run_findKey hk hf, hz, Result.andThen]
theorem lab_yes {b j : Nat} {v : Value} {es : Array MapEntry} {clk : Nat} {k : ByteArray} (hb : w.heap[b]? = some (.map es clk)) (hf : Instr.findNow .string (.string k) es.toList 0 = some (some (j, v))) :
    (Instr.lookup 274 (.map (some b)) (.string k) false).run Tryz.prog w = .ok v w := by
  have hm := Tryz.underlying274
  have hk := Tryz.underlying9
  have hkk : IsKey .string (.string k) := trivial
  simp [Instr.lookup, run_underlying hm, Go.MapKept.run_getObj_map hb, Go.MapKept.run_checkKey hk hkk, Go.MapKept.run_findKey hk hf, Result.andThen]
theorem lab_put {b : Nat} {v : Value} {k : ByteArray} (h : Sat B w0 w (blk b (.map #[] 0) • F)) :
    ∃ W, (Instr.mapUpdate 274 (.map (some b)) (.string k) v).run Tryz.prog w = .ok () W ∧ Sat B w0 W (blk b (.map #[{ key := .string k, val := v, born := 0 }] 1) • F) := by
  have hm := Tryz.underlying274
  have hk := Tryz.underlying9
  have hkk : IsKey .string (.string k) := trivial
  have hf : Instr.findNow .string (.string k) (#[] : Array MapEntry).toList 0 = some none := rfl
  refine ⟨{ w with heap := w.heap.setIfInBounds b (.map (#[].push { key := .string k, val := v, born := 0 }) (0 + 1)) }, ?_, h.setObjL⟩
  simp [Instr.mapUpdate, run_underlying hm, Go.MapKept.run_getObj_map h.heap, Go.MapKept.run_checkKey hk hkk, Go.MapKept.run_findKey hk hf, Go.MapKept.run_setObj_map _ h.heap, Result.andThen]
end
set_option maxRecDepth 8000 in
set_option maxHeartbeats 1000000 in
theorem labNew {B : Nat} {w0 w : World} {F : HP} (h : Sat B w0 w F) : Calls Tryz.prog 67 #[] w fun e w' => ∃ tb nb : Nat, e = .returned (.pointer (some ⟨tb, 0, none⟩)) ∧ Sat B w0 w' (blk tb (.cells #[.pointer (some ⟨nb, 0, none⟩), .int .i64 0] 278) • blk nb (.cells #[.slice none 0 0, .slice none 0 0, .map none] 276) • F) := by
  have hS := (h.alloc (.cells #[.slice none 0 0, .slice none 0 0, .map none] 276)).alloc (.cells #[.pointer (some ⟨w.heap.size, 0, none⟩), .int .i64 0] 278)
  simp only [World.size_alloc] at hS
  go_enter Tryz.func67, Tryz.ntmps67
  go_wp2_with fail
  go_ret
  exact ⟨_, _, rfl, hS⟩
end Go.Proofs.YtdcekoocnoackaaGreatDoor

/-! slices.Clone at the policy's slices, and at a name's labels. -/
namespace Go.Proofs.YtdcekoocnoackaaGreatDoor
open Go Go.RowKit

theorem run_eqInF (w : World) (d : Nat) (t e : TypeId) (a : Option Addr) (l c : Nat) (h : Tryz.prog.underlying t = some (.slice e)) : (Op.equalIn (d + 1) t (.slice a l c) (.slice none 0 0)).run Tryz.prog w = .ok a.isNone w := by
  cases a <;> simp [Op.equalIn, run_underlying h]
theorem run_eqlS_full (w : World) (t e : TypeId) (a : Addr) (l c : Nat) (h : Tryz.prog.underlying t = some (.slice e)) : (binOp .eql t (.slice (some a) l c) (.slice none 0 0)).run Tryz.prog w = .ok (.bool false) w := by
  simp only [binOp]
  have h1 := run_eqInF w 9999 t e (some a) l c h
  simp [Op.equal, Op.maxDepth, h1]
set_option maxRecDepth 8000 in
set_option maxHeartbeats 2000000 in
theorem cloneA_any {B : Nat} {w0 w : World} {F : HP} {A : Option Addr} {n c : Nat} {xs : List Value} (h1 : ∀ u ∈ xs, u.oneCell' = true) (hn : n ≤ 100) (h : Sat B w0 w (arr 36 17 (.slice A (n + 1) c) (n + 1) xs • F)) :
    Calls Tryz.prog 65 #[.slice A (n + 1) c] w fun e w' => ∃ g' c', e = .returned (.slice (some ⟨g', 0, none⟩) (n + 1) c') ∧ Sat B w0 w' (arr 36 17 (.slice (some ⟨g', 0, none⟩) (n + 1) c') (n + 1) xs • arr 36 17 (.slice A (n + 1) c) (n + 1) xs • F) := by
  obtain ⟨b, rfl, _, _, _⟩ := h.arr_shape
  have hX := h.alloc (.cells #[] 36)
  have hA := Sat.arr_shut (e := 36) (sz := 17) (n := 0) (cap := 0) (xs := []) (Nat.le_refl _) (Nat.zero_le _) rfl rfl hX
  obtain ⟨z, hz1, _, hz3⟩ := addr_zero
  have hlen := h.arr_len
  obtain ⟨v', w1, hr, hS⟩ := hA.append (P := Tryz.prog) (t := 85) (ty := 85) (m := n + 1) (news := xs) (x := .slice (some ⟨b, 0, none⟩) (n + 1) c) Tryz.underlying85 hz1 hz3 (by decide) hA.pull2.arr_reads hlen h1 (by unfold maxLen; omega) (by omega)
  rw [Nat.zero_add, List.nil_append] at hS
  obtain ⟨A', c', rfl⟩ := hS.arr_form
  obtain ⟨g', rfl, _, _, _⟩ := hS.arr_shape
  have HS := Lib.hid hS
  have hq := run_eqlS_full w 85 36 ⟨b, 0, none⟩ (n + 1) c Tryz.underlying85
  clear hX hA hS h hz1 hz3 hlen h1
  generalize n + 1 = m at *
  go_enter Tryz.func65, Tryz.ntmps65
  go_wp2_with (refine wpList_append_run rfl _ _ 85 rfl rfl rfl hr (stop_ ?_))
  unfold Stop
  go_wp2_with fail
  go_ret
  exact ⟨g', c', rfl, HS.out⟩
set_option maxRecDepth 8000 in
set_option maxHeartbeats 2000000 in
theorem cloneR_any {B : Nat} {w0 w : World} {F : HP} {A : Option Addr} {n c : Nat} {xs : List Value} (h1 : ∀ u ∈ xs, u.oneCell' = true) (hn : n ≤ 100) (h : Sat B w0 w (arr 170 24 (.slice A (n + 1) c) (n + 1) xs • F)) :
    Calls Tryz.prog 66 #[.slice A (n + 1) c] w fun e w' => ∃ g' c', e = .returned (.slice (some ⟨g', 0, none⟩) (n + 1) c') ∧ Sat B w0 w' (arr 170 24 (.slice (some ⟨g', 0, none⟩) (n + 1) c') (n + 1) xs • arr 170 24 (.slice A (n + 1) c) (n + 1) xs • F) := by
  obtain ⟨b, rfl, _, _, _⟩ := h.arr_shape
  have hX := h.alloc (.cells #[] 170)
  have hA := Sat.arr_shut (e := 170) (sz := 24) (n := 0) (cap := 0) (xs := []) (Nat.le_refl _) (Nat.zero_le _) rfl rfl hX
  obtain ⟨z, hz1, _, hz3⟩ := rule_zero
  have hlen := h.arr_len
  obtain ⟨v', w1, hr, hS⟩ := hA.append (P := Tryz.prog) (t := 86) (ty := 86) (m := n + 1) (news := xs) (x := .slice (some ⟨b, 0, none⟩) (n + 1) c) Tryz.underlying86 hz1 hz3 (by decide) hA.pull2.arr_reads hlen h1 (by unfold maxLen; omega) (by omega)
  rw [Nat.zero_add, List.nil_append] at hS
  obtain ⟨A', c', rfl⟩ := hS.arr_form
  obtain ⟨g', rfl, _, _, _⟩ := hS.arr_shape
  have HS := Lib.hid hS
  have hq := run_eqlS_full w 86 170 ⟨b, 0, none⟩ (n + 1) c Tryz.underlying86
  clear hX hA hS h hz1 hz3 hlen h1
  generalize n + 1 = m at *
  go_enter Tryz.func66, Tryz.ntmps66
  go_wp2_with (refine wpList_append_run rfl _ _ 86 rfl rfl rfl hr (stop_ ?_))
  unfold Stop
  go_wp2_with fail
  go_ret
  exact ⟨g', c', rfl, HS.out⟩
set_option maxRecDepth 8000 in
set_option maxHeartbeats 2000000 in
theorem cloneS_any {B : Nat} {w0 w : World} {F : HP} {A : Option Addr} {n c : Nat} {xs : List Value} (h1 : ∀ u ∈ xs, u.oneCell' = true) (hn : n ≤ 100) (h : Sat B w0 w (arr 9 1 (.slice A (n + 1) c) (n + 1) xs • F)) :
    Calls Tryz.prog 203 #[.slice A (n + 1) c] w fun e w' => ∃ g' c', e = .returned (.slice (some ⟨g', 0, none⟩) (n + 1) c') ∧ Sat B w0 w' (arr 9 1 (.slice (some ⟨g', 0, none⟩) (n + 1) c') (n + 1) xs • arr 9 1 (.slice A (n + 1) c) (n + 1) xs • F) := by
  obtain ⟨b, rfl, _, _, _⟩ := h.arr_shape
  have hX := h.alloc (.cells #[] 9)
  have hA := Sat.arr_shut (e := 9) (sz := 1) (n := 0) (cap := 0) (xs := []) (Nat.le_refl _) (Nat.zero_le _) rfl rfl hX
  obtain ⟨z, hz1, hz3⟩ : ∃ z, (Tryz.prog.info? 9).map (fun i => (i.zero, i.size, i.bytes)) = some (some z, 1, 16) ∧ z.cells.size = 1 := ⟨.string ⟨#[]⟩, by kernel_rfl, by kernel_rfl⟩
  have hlen := h.arr_len
  obtain ⟨v', w1, hr, hS⟩ := hA.append (P := Tryz.prog) (t := 259) (ty := 259) (m := n + 1) (news := xs) (x := .slice (some ⟨b, 0, none⟩) (n + 1) c) Tryz.underlying259 hz1 hz3 (by decide) hA.pull2.arr_reads hlen h1 (by unfold maxLen; omega) (by omega)
  rw [Nat.zero_add, List.nil_append] at hS
  obtain ⟨A', c', rfl⟩ := hS.arr_form
  obtain ⟨g', rfl, _, _, _⟩ := hS.arr_shape
  have HS := Lib.hid hS
  have hq := run_eqlS_full w 259 9 ⟨b, 0, none⟩ (n + 1) c Tryz.underlying259
  clear hX hA hS h hz1 hz3 hlen h1
  generalize n + 1 = m at *
  go_enter Tryz.func203, Tryz.ntmps203
  go_wp2_with (refine wpList_append_run rfl _ _ 259 rfl rfl rfl hr (stop_ ?_))
  unfold Stop
  go_wp2_with fail
  go_ret
  exact ⟨g', c', rfl, HS.out⟩
end Go.Proofs.YtdcekoocnoackaaGreatDoor
