import Derived.Test.YtepaanpdjadakaaDoorDropP
import Derived.Test.YtepaanpdjadakaaDoorQry
import Derived.Test.YtepaanpdjadakaaDoorPend2
import Derived.Test.YtepaanpdjadakaaDoorBase
/-! Tables of queries: Add. -/
namespace Go.Proofs.YtepaanpdjadakaaDoor
open Go Go.RowKit

section
variable {B : Nat} {w0 w w' : World} {F X : HP} {R : List (Itm Qry)} {t room : Nat} {next : Int}
def KN (R : List (Itm Qry)) : Prop := (R.map (·.key)).Nodup
def setKey (R : List (Itm Qry)) (q : Qry) (u : Int) : List (Itm Qry) := R.map fun x => if x.key = q then { x with due := u } else x
def addC (room : Nat) (R : List (Itm Qry)) (q : Qry) : Int := if R.any (isQ q) then 0 else if room ≤ R.length then 18 else 0
def addR (room : Nat) (R : List (Itm Qry)) (next : Int) (q : Qry) (u : Int) : List (Itm Qry) := if R.any (isQ q) then setKey R q u else if room ≤ R.length then R else R ++ [⟨q, next, u⟩]
def addN (room : Nat) (R : List (Itm Qry)) (next : Int) (q : Qry) : Int := if R.any (isQ q) then next else if room ≤ R.length then next else next + 1
theorem setKey_due {k : Nat} {x : Itm Qry} {q : Qry} (hn : (R.map (·.key)).Nodup) (hg : Good R next) (h : R[k]? = some x) (hq : x.key = q) (u : Int) : setDue R x.id u = setKey R q u := by
  unfold setDue setKey
  apply List.map_congr_left
  intro y hy
  obtain ⟨j, hj⟩ := List.mem_iff_getElem?.1 hy
  obtain ⟨h1, h2⟩ := List.getElem?_eq_some_iff.1 h
  obtain ⟨h3, h4⟩ := List.getElem?_eq_some_iff.1 hj
  by_cases e : k = j
  · subst e
    rw [h] at hj; cases hj
    simp [hq]
  · have hid : y.id ≠ x.id := by
      intro e2
      have := (List.getElem_inj (xs := R.map (·.id)) (i := k) (j := j) (h₀ := by simpa using h1) (h₁ := by simpa using h3) hg.1).1 (by simp only [List.getElem_map]; rw [h2, h4, e2])
      exact e this
    have hky : y.key ≠ q := by
      intro e2
      have := (List.getElem_inj (xs := R.map (·.key)) (i := k) (j := j) (h₀ := by simpa using h1) (h₁ := by simpa using h3) hn).1 (by simp only [List.getElem_map]; rw [h2, h4, hq, e2])
      exact e this
    rw [if_neg hid, if_neg hky]
theorem setDue_cells (id u : Int) : (setDue R id u).flatMap (itmC Qry.enc) = R.flatMap (itmC Qry.enc) := by
  unfold setDue
  rw [List.flatMap_map]
  congr 1
  funext x
  unfold itmC
  split <;> rfl
theorem splice_two {z : Array Value} {a b : List Value} (hz : z.size = a.length + b.length) : splice (splice z 0 a) a.length b = (a ++ b).toArray := by
  have h1 : (splice z 0 a).toList.take a.length = a := by
    unfold splice
    simp only [List.take_zero, List.nil_append, Nat.zero_add]
    rw [List.take_left']; rfl
  have h2 : (splice z 0 a).size = z.size := splice_size (by omega)
  unfold splice at h1 h2 ⊢
  rw [h1, List.drop_of_length_le, List.append_nil]
  simp only [List.size_toArray] at h2
  simp only [List.take_zero, List.nil_append, Nat.zero_add] at h2 ⊢
  omega
theorem item_built (q : Qry) (id u : Int) : Tryd.prog.built 169 [(0, .agg q.enc.toArray), (1, .int .i64 id)] = some (itmC Qry.enc ⟨q, id, u⟩).toArray := by
  obtain ⟨i, hi, hz⟩ := Option.map_eq_some_iff.1 (show (Tryd.prog.info? 169).map (fun i => i.zero.map fun z => z.cells.size) = some (some 41) by kernel_rfl)
  obtain ⟨z, hz1, hz2⟩ := Option.map_eq_some_iff.1 hz
  rw [built_struct (places := [(0, 40), (40, 1)]) (z := z) Tryd.underlying169 (by simp [hi, hz1]) (by kernel_rfl)]
  rw [fill_one (off := 0) (by simp [Value.cells, Qry.enc_length]) (by rw [hz2]; simp [Value.cells, Qry.enc_length])]
  rw [fill_one (off := 40) (by simp [Value.cells]) (by rw [splice_size (by rw [hz2]; simp [Value.cells, Qry.enc_length]), hz2]; simp [Value.cells])]
  have := splice_two (z := z.cells) (a := q.enc) (b := [.int .i64 id]) (by rw [hz2, Qry.enc_length]; rfl)
  rw [Qry.enc_length] at this
  simp only [Instr.fill]
  rw [show (Value.agg q.enc.toArray).cells.toList = q.enc from rfl, show (Value.int .i64 id).cells.toList = [.int .i64 id] from rfl, this]
  rfl
theorem wp_build2_run {P : Program} {o : Oper} {a : Act} {K : Act → World → Prop} {Q : Exit → Act → World → Prop} {ty : TypeId} {i j : Nat} {x y : Operand} {u v : Value} {cells : Array Value} (ho : o.op = .build ty #[(i, x), (j, y)]) (hx : a.eval x = u) (hy : a.eval y = v) (hb : P.built ty [(i, u), (j, v)] = some cells) (h : K (a.put o.dst (.agg cells)) w) : o.wp P a w K Q :=
  wp_build_run ho (vs := [(i, u), (j, v)]) (by simp [hx, hy]) hb h
theorem pitem_zero3 : ∃ z, (Tryd.prog.info? 169).map (fun i => (i.zero, i.size, i.bytes)) = some (some z, 41, 104) ∧ (Tryd.prog.info? 169).map (fun i => (i.zero, i.size)) = some (some z, 41) ∧ z.cells.size = 41 := by
  obtain ⟨i, hi, hz⟩ := Option.map_eq_some_iff.1 (show (Tryd.prog.info? 169).map (fun i => (i.zero.map fun z => z.cells.size, i.size, i.bytes)) = some (some 41, 41, 104) by kernel_rfl)
  simp only [Prod.mk.injEq] at hz
  obtain ⟨z, hz1, hz2⟩ := Option.map_eq_some_iff.1 hz.1
  exact ⟨z, by simp [hi, hz1, hz.2], by simp [hi, hz1, hz.2], hz2⟩
attribute [local irreducible] wpOrd
set_option maxRecDepth 8000 in
set_option maxHeartbeats 4000000 in
theorem pAdd_any (h : Sat B w0 w (ptab t room R next • F)) (hB : 0 < B) (hE : Et w0) (hn : KN R) (hnx : 0 ≤ next ∧ next ≤ 1000000000) (q : Qry) (u : Int) : Calls Tryd.prog 39 #[.pointer (some ⟨t, 0, none⟩), .agg q.enc.toArray, .int .u64 u] w fun e w' =>
    e = .returned (errV (addC room R q)) ∧ Sat B w0 w' (ptab t room (addR room R next q u) (addN room R next q) • F) := by
  have e0 : errV 0 = .nilIface := rfl
  have hX := h.alloc (.cells q.enc.toArray 67)
  have hl : (Instr.loadAt 67 (.pointer (some ⟨w.heap.size, 0, none⟩))).run Tryd.prog (w.alloc (.cells q.enc.toArray 67)) = .ok (.agg q.enc.toArray) (w.alloc (.cells q.enc.toArray 67)) :=
    run_loadAt_row (heap_alloc_new _ _) Tryd.underlying67 rfl (by rw [Qry.enc_length]; kernel_rfl) (fun j u hu => by simpa using hu)
  have c1 := pPlace_any hX.pull2 q
  obtain ⟨_, _, _, hg, hl1, hl2, _⟩ := h.tab_open
  rcases plc_cases (isQ q) R with ⟨e1, hno⟩ | ⟨k, x, hx, hpx, e1, hfirst⟩
  · have hany : R.any (isQ q) = false := by rw [List.any_eq_false]; intro x hx; simp [hno x hx]
    rw [e1] at c1
    have hnn := hg.hasnt
    by_cases hfull : room ≤ R.length
    · have hr : addC room R q = 18 ∧ addR room R next q u = R ∧ addN room R next q = next := by unfold addC addR addN; simp [hany, hfull]
      rw [hr.1, hr.2.1, hr.2.2]
      have hpc : pushC room (ents R) next = 18 ∧ pushS room (ents R) next u = ents R := by unfold pushC pushS; rw [hnn, ents_length]; simp [hfull]
      have HPC := Lib.hid hpc
      clear hno hany hnn hr hpc e1 h hfull
      generalize q.enc.toArray = Q at *
      go_enter Tryd.func39, Tryd.ntmps39
      go_wp2_with (refine wpList_load_run (t := 67) rfl rfl rfl hl ?_)
      refine c1.mono ?_
      rintro e w1 ⟨rfl, hS1⟩
      clear hl c1 hX
      obtain ⟨A, c, qq, hg, _, _, hT⟩ := hS1.tab_open
      have hT2 := hT.drew
      have HG := Lib.hid hg
      have HT := Lib.hid hT
      clear hg
      go_wp2_with fail
      try go_frame
      refine wp_region_ord [(0, .pure), (1, .pure), (2, .pure), (3, .quiet), (4, .pure), (5, .pure), (6, .pure), (7, .quiet), (8, .pure), (9, .seals), (10, .pure)] (by kernel_rfl) (by kernel_rfl)
        (fun w' => w'.cell? ⟨t, 1, none⟩ = some (.pointer (some ⟨qq, 0, none⟩)) ∧ w'.cell? ⟨t, 2, none⟩ = some (.int .i64 next)) ⟨cell_heap hT2.heap rfl, cell_heap hT2.heap rfl⟩ ?_
      iterate 3 (refine ord_pure rfl rfl rfl (fun K' hK => ?_); go_big_quiet_op; refine hK _ ?_; clear hK K')
      refine ord_load (t := 25) rfl rfl rfl (p := .pointer (some ⟨t, 1, none⟩)) (v := .pointer (some ⟨qq, 0, none⟩)) rfl (fun w' hC => load_one Tryd.underlying25 rfl hC.1) (fun K' hK => ?_)
      go_simp
      refine hK _ ?_
      clear hK K'
      iterate 3 (refine ord_pure rfl rfl rfl (fun K' hK => ?_); go_big_quiet_op; refine hK _ ?_; clear hK K')
      refine ord_load (t := 3) rfl rfl rfl (p := .pointer (some ⟨t, 2, none⟩)) (v := .int .i64 next) rfl (fun w' hC => load_one Tryd.underlying3 rfl hC.2) (fun K' hK => ?_)
      go_simp
      refine hK _ ?_
      clear hK K'
      iterate 1 (refine ord_pure rfl rfl rfl (fun K' hK => ?_); go_big_quiet_op; refine hK _ ?_; clear hK K')
      refine ord_seals rfl rfl (fun K' hK => ?_)
      go_simp
      refine (qPush_any hT2.pull3 (hT2.et hB hE) next u).mono ?_
      rintro e w3 ⟨rfl, hS3⟩
      rw [HPC.out.1]
      refine hK (fun _ => True) _ _ trivial ?_
      clear hK K'
      go_simp
      iterate 1 (refine ord_pure rfl rfl rfl (fun K' hK => ?_); go_big_quiet_op; refine hK _ ?_; clear hK K')
      refine ord_nil ?_
      have c3 := eis_any 18 18 (by decide) w3
      rw [HPC.out.2] at hS3
      rw [show ((18 : Int) == 18) = true from rfl] at c3
      clear HT hT2 hT hS1
      go_wp2_with fail
      refine c3.mono ?_
      rintro e wx ⟨rfl, rfl⟩
      go_wp2_with fail
      go_ret
      refine ⟨rfl, Sat.tab_shut (v := .slice A R.length c) (q := qq) HG.out ?_⟩
      exact (hS3.to (by ac_rfl : _ = blk w.heap.size (.cells Q 67) • blk t (.cells #[.slice A R.length c, .pointer (some ⟨qq, 0, none⟩), .int .i64 next] 166) • arr 169 (40 + 1) (.slice A R.length c) R.length (R.flatMap (itmC Qry.enc)) • queue qq room (ents R) • F)).drop
    · have hr : addC room R q = 0 ∧ addR room R next q u = R ++ [⟨q, next, u⟩] ∧ addN room R next q = next + 1 := by unfold addC addR addN; simp [hany, hfull]
      rw [hr.1, hr.2.1, hr.2.2]
      have hpc : pushC room (ents R) next = 0 ∧ pushS room (ents R) next u = ents (R ++ [⟨q, next, u⟩]) := by unfold pushC pushS; rw [hnn, ents_length, ents_add]; simp [hfull]
      have HPC := Lib.hid hpc
      have hib := item_built q next u
      have hRl : R.length ≤ 1000 := by omega
      have HH : Hid (.agg q.enc.toArray = (.agg q.enc.toArray : Value) ∧ q.enc.length = 40) := Lib.hid ⟨rfl, q.enc_length⟩
      clear hno hany hnn hr hpc e1 h hfull
      go_enter Tryd.func39, Tryd.ntmps39
      go_wp2_with (refine wpList_load_run (t := 67) rfl rfl rfl hl ?_)
      refine c1.mono ?_
      rintro e w1 ⟨rfl, hS1⟩
      clear hl c1 hX
      obtain ⟨A, c, qq, hg, _, _, hT⟩ := hS1.tab_open
      have hT2 := hT.drew
      have HG := Lib.hid (hg.add q u)
      clear hg hT hS1
      go_wp2_with fail
      try go_frame
      refine wp_region_ord [(0, .pure), (1, .pure), (2, .pure), (3, .quiet), (4, .pure), (5, .pure), (6, .pure), (7, .quiet), (8, .pure), (9, .seals), (10, .pure)] (by kernel_rfl) (by kernel_rfl)
        (fun w' => w'.cell? ⟨t, 1, none⟩ = some (.pointer (some ⟨qq, 0, none⟩)) ∧ w'.cell? ⟨t, 2, none⟩ = some (.int .i64 next)) ⟨cell_heap hT2.heap rfl, cell_heap hT2.heap rfl⟩ ?_
      iterate 3 (refine ord_pure rfl rfl rfl (fun K' hK => ?_); go_big_quiet_op; refine hK _ ?_; clear hK K')
      refine ord_load (t := 25) rfl rfl rfl (p := .pointer (some ⟨t, 1, none⟩)) (v := .pointer (some ⟨qq, 0, none⟩)) rfl (fun w' hC => load_one Tryd.underlying25 rfl hC.1) (fun K' hK => ?_)
      go_simp
      refine hK _ ?_
      clear hK K'
      iterate 3 (refine ord_pure rfl rfl rfl (fun K' hK => ?_); go_big_quiet_op; refine hK _ ?_; clear hK K')
      refine ord_load (t := 3) rfl rfl rfl (p := .pointer (some ⟨t, 2, none⟩)) (v := .int .i64 next) rfl (fun w' hC => load_one Tryd.underlying3 rfl hC.2) (fun K' hK => ?_)
      go_simp
      refine hK _ ?_
      clear hK K'
      iterate 1 (refine ord_pure rfl rfl rfl (fun K' hK => ?_); go_big_quiet_op; refine hK _ ?_; clear hK K')
      refine ord_seals rfl rfl (fun K' hK => ?_)
      go_simp
      refine (qPush_any hT2.pull3 (hT2.et hB hE) next u).mono ?_
      rintro e w3 ⟨rfl, hS3⟩
      rw [HPC.out.1]
      refine hK (fun _ => True) _ _ trivial ?_
      clear hK K'
      go_simp
      iterate 1 (refine ord_pure rfl rfl rfl (fun K' hK => ?_); go_big_quiet_op; refine hK _ ?_; clear hK K')
      refine ord_nil ?_
      have c3 := eis_any 0 18 (by decide) w3
      rw [e0, show ((0 : Int) == 18) = false from rfl] at c3
      rw [HPC.out.2] at hS3
      clear hT2
      go_wp2_with fail
      refine c3.mono ?_
      rintro e wx ⟨rfl, rfl⟩
      clear c3
      have hT4 := hS3.drew
      have hT5 := hT4.pull3.alloc_ (.cells (itmC Qry.enc ⟨q, next, u⟩).toArray 169)
      obtain ⟨z, hz1, hz2, hz3⟩ := pitem_zero3
      obtain ⟨v9, w9, hr9, hA9⟩ := hT5.append (sz := 41) (m := 1) (news := itmC Qry.enc ⟨q, next, u⟩) (t := 164) (ty := 164) (P := Tryd.prog) (x := .slice (some ⟨wx.drew.heap.size, 0, none⟩) 1 1) Tryd.underlying164 hz1 hz3 (by decide) reads_new (by rw [itmC_length Qry.enc_length]) (itmC_one Qry.enc_one _) (by unfold maxLen; omega) (by omega)
      obtain ⟨A9, c9, rfl⟩ := hA9.arr_form
      obtain ⟨w10, hr10, hA10⟩ := one_store (o := 0) (ty := 164) (u := .slice A9 (R.length + 1) c9) hA9.pull3 (by kernel_rfl) (by simp) rfl rfl
      have d10 : w10.cell? ⟨t, 2, none⟩ = some (.int .i64 next) := cell_heap hA10.heap rfl
      obtain ⟨w11, hr11, hA11⟩ := one_store (o := 2) (ty := 3) (u := .int .i64 (next + 1)) hA10 (by kernel_rfl) (by simp) rfl rfl
      have hfin : Sat B w0 w11 (ptab t room (R ++ [⟨q, next, u⟩]) (next + 1) • F) := by
        refine Sat.tab_shut (v := .slice A9 (R.length + 1) c9) (q := qq) HG.out ?_
        rw [List.length_append, List.length_singleton, List.flatMap_append, List.flatMap_singleton]
        exact (hA11.to (by ac_rfl : _ = blk w.heap.size (.cells q.enc.toArray 67) • blk t (.cells ((#[Value.slice A R.length c, .pointer (some ⟨qq, 0, none⟩), .int .i64 next].setIfInBounds 0 (.slice A9 (R.length + 1) c9)).setIfInBounds 2 (.int .i64 (next + 1))) 166) • arr 169 41 (.slice A9 (R.length + 1) c9) (R.length + 1) (R.flatMap (itmC Qry.enc) ++ itmC Qry.enc ⟨q, next, u⟩) • queue qq room (ents (R ++ [⟨q, next, u⟩])) • F)).drop
      have HF := Lib.hid hfin
      have dQ := cell_heap hT4.pull2.heap (o := 0) rfl
      have dN : wx.drew.cell? ⟨t, 2, none⟩ = some (.int .i64 next) := cell_heap hT4.pull2.heap rfl
      have hQb : wx.drew.heap[w.heap.size]? = some (.cells q.enc.toArray 67) := hT4.pull4.heap
      have hC9 : wx.drew.cell? ⟨t, 0, none⟩ = some (.slice A R.length c) ∧ wx.drew.cell? ⟨t, 2, none⟩ = some (.int .i64 next) ∧ wx.drew.heap[w.heap.size]? = some (.cells q.enc.toArray 67) := ⟨dQ, dN, hQb⟩
      have hX5 := hT4.alloc_ (.cells (itmC Qry.enc ⟨q, next, u⟩).toArray 169)
      have hC10 : (wx.drew.alloc (.cells (itmC Qry.enc ⟨q, next, u⟩).toArray 169)).cell? ⟨t, 0, none⟩ = some (.slice A R.length c) ∧ (wx.drew.alloc (.cells (itmC Qry.enc ⟨q, next, u⟩).toArray 169)).cell? ⟨t, 2, none⟩ = some (.int .i64 next) ∧ (wx.drew.alloc (.cells (itmC Qry.enc ⟨q, next, u⟩).toArray 169)).heap[w.heap.size]? = some (.cells q.enc.toArray 67) := ⟨cell_heap hX5.pull2.heap rfl, cell_heap hX5.pull2.heap rfl, hX5.pull4.heap⟩
      have hil : (itmC Qry.enc ⟨q, next, u⟩).length = 41 := itmC_length Qry.enc_length _
      have HIL := Lib.hid hil
      clear hfin hA11 hA10 hA9 hT5 hT4 hS3 hX5 dQ dN hQb hil
      generalize itmC Qry.enc ⟨q, next, u⟩ = Y at *
      go_wp2_with fail
      try go_frame
      refine wp_region_ord [(0, .pure), (1, .pure), (2, .pure), (3, .pure), (4, .quiet), (5, .quiet), (6, .pure), (7, .pure), (8, .pure), (9, .quiet), (10, .acts), (11, .acts), (12, .seals), (13, .pure), (14, .pure), (15, .seals)] (by kernel_rfl) (by kernel_rfl)
        (fun w' => w'.cell? ⟨t, 0, none⟩ = some (.slice A R.length c) ∧ w'.cell? ⟨t, 2, none⟩ = some (.int .i64 next) ∧ w'.heap[w.heap.size]? = some (.cells q.enc.toArray 67)) hC9 ?_
      iterate 4 (refine ord_pure rfl rfl rfl (fun K' hK => ?_); go_big_quiet_op; refine hK _ ?_; clear hK K')
      refine ord_load (t := 164) rfl rfl rfl (p := .pointer (some ⟨t, 0, none⟩)) (v := .slice A R.length c) rfl (fun w' hC => load_one Tryd.underlying164 rfl hC.1) (fun K' hK => ?_)
      go_simp
      refine hK _ ?_
      clear hK K'
      refine ord_load (t := 67) rfl rfl rfl (p := .pointer (some ⟨w.heap.size, 0, none⟩)) (v := .agg q.enc.toArray) rfl (fun w' hC => run_loadAt_row hC.2.2 Tryd.underlying67 rfl (by rw [Qry.enc_length]; kernel_rfl) (fun j u hu => by simpa using hu)) (fun K' hK => ?_)
      go_simp
      refine hK _ ?_
      clear hK K'
      iterate 3 (refine ord_pure rfl rfl rfl (fun K' hK => ?_); go_big_quiet_op; refine hK _ ?_; clear hK K')
      refine ord_load (t := 3) rfl rfl rfl (p := .pointer (some ⟨t, 2, none⟩)) (v := .int .i64 next) rfl (fun w' hC => load_one Tryd.underlying3 rfl hC.2.1) (fun K' hK => ?_)
      go_simp
      refine hK _ ?_
      clear hK K'
      refine ord_acts rfl rfl (fun K' hK => wp_build2_run rfl (u := .agg q.enc.toArray) (v := .int .i64 next) rfl rfl hib (hK _ _ hC9 ?_))
      clear hK K'
      go_simp
      refine ord_acts rfl rfl (fun K' hK => wp_buildSlice_one (v := .agg Y.toArray) (sz := 41) rfl rfl Tryd.underlying164 hz2 (by simp [Value.cells, HIL.out]) (by decide) (by decide) (hK _ _ hC10 ?_))
      clear hK K'
      go_simp
      refine ord_seals rfl rfl (fun K' hK => wp_append_run _ _ _ rfl rfl rfl hr9 (hK (fun _ => True) _ _ trivial ?_))
      clear hK K'
      go_simp
      iterate 2 (refine ord_pure rfl rfl rfl (fun K' hK => ?_); go_big_quiet_op; refine hK _ ?_; clear hK K')
      refine ord_store rfl rfl rfl rfl (p := .pointer (some ⟨t, 0, none⟩)) (v := .slice A9 (R.length + 1) c9) rfl rfl hr10 (fun _ => True) trivial ?_
      refine ord_nil ?_
      go_wp2_with (refine wpList_store_run (t := 3) rfl rfl rfl rfl hr11 ?_)
      go_ret
      rw [HPC.out.1.symm.trans HPC.out.1]
      exact ⟨rfl, HF.out⟩
  · have hany : R.any (isQ q) = true := by rw [List.any_eq_true]; exact ⟨x, List.mem_of_getElem? hx, hpx⟩
    have hqx : x.key = q := by simpa [isQ] using hpx
    have hr : addC room R q = 0 ∧ addR room R next q u = setKey R q u ∧ addN room R next q = next := by unfold addC addR addN; simp [hany]
    rw [hr.1, hr.2.1, hr.2.2, ← setKey_due hn hg hx hqx, e0]
    rw [e1] at c1
    have hkl := (List.getElem?_eq_some_iff.1 hx).1
    have hid := itmC_id (ek := Qry.enc) Qry.enc_length x
    have hnc := noneC_yes (itm_has (List.mem_of_getElem? hx))
    have HX := Lib.hid hx
    have HID := Lib.hid hid
    have HNC := Lib.hid hnc
    clear hany hqx hr e1 h hx hpx hfirst hid hnc
    generalize q.enc.toArray = Q at *
    generalize x.id = xi at *
    go_enter Tryd.func39, Tryd.ntmps39
    go_wp2_with (refine wpList_load_run (t := 67) rfl rfl rfl hl ?_)
    refine c1.mono ?_
    rintro e w1 ⟨rfl, hS1⟩
    clear hl c1 hX
    obtain ⟨A, c, qq, hg, _, _, hT⟩ := hS1.tab_open
    have hT2 := hT.drew
    obtain ⟨g, rfl, _, hc⟩ := hT.pull2.arr_at (itmC_length Qry.enc_length) rfl HX.out
    have d3 := hc 40 _ HID.out
    have hC0 : w1.drew.cell? ⟨t, 1, none⟩ = some (.pointer (some ⟨qq, 0, none⟩)) ∧ w1.drew.cell? ⟨t, 0, none⟩ = some (.slice (some ⟨g, 0, none⟩) R.length c) ∧ w1.drew.cell? ⟨g, k * 41 + 40, none⟩ = some (.int .i64 xi) := ⟨cell_heap hT.heap rfl, cell_heap hT.heap rfl, d3⟩
    have HG := Lib.hid (hg.setDue xi u)
    clear hg hc
    go_wp2_with fail
    try go_frame
    refine wp_region_ord [(0, .pure), (1, .pure), (2, .pure), (3, .quiet), (4, .pure), (5, .pure), (6, .pure), (7, .quiet), (8, .pure), (9, .pure), (10, .pure), (11, .quiet), (12, .pure), (13, .seals), (14, .pure)] (by kernel_rfl) (by kernel_rfl)
      (fun w' => w'.cell? ⟨t, 1, none⟩ = some (.pointer (some ⟨qq, 0, none⟩)) ∧ w'.cell? ⟨t, 0, none⟩ = some (.slice (some ⟨g, 0, none⟩) R.length c) ∧ w'.cell? ⟨g, k * 41 + 40, none⟩ = some (.int .i64 xi)) hC0 ?_
    iterate 3 (refine ord_pure rfl rfl rfl (fun K' hK => ?_); go_big_quiet_op; refine hK _ ?_; clear hK K')
    refine ord_load (t := 25) rfl rfl rfl (p := .pointer (some ⟨t, 1, none⟩)) (v := .pointer (some ⟨qq, 0, none⟩)) rfl (fun w' hC => load_one Tryd.underlying25 rfl hC.1) (fun K' hK => ?_)
    go_simp
    refine hK _ ?_
    clear hK K'
    iterate 3 (refine ord_pure rfl rfl rfl (fun K' hK => ?_); go_big_quiet_op; refine hK _ ?_; clear hK K')
    refine ord_load (t := 164) rfl rfl rfl (p := .pointer (some ⟨t, 0, none⟩)) (v := .slice (some ⟨g, 0, none⟩) R.length c) rfl (fun w' hC => load_one Tryd.underlying164 rfl hC.2.1) (fun K' hK => ?_)
    go_simp
    refine hK _ ?_
    clear hK K'
    iterate 3 (refine ord_pure rfl rfl rfl (fun K' hK => ?_); go_big_quiet_op; refine hK _ ?_; clear hK K')
    refine ord_load (t := 3) rfl rfl rfl (p := .pointer (some ⟨g, k * 41 + 40, none⟩)) (v := .int .i64 xi) rfl (fun w' hC => load_one Tryd.underlying3 rfl hC.2.2) (fun K' hK => ?_)
    go_simp
    refine hK _ ?_
    clear hK K'
    iterate 1 (refine ord_pure rfl rfl rfl (fun K' hK => ?_); go_big_quiet_op; refine hK _ ?_; clear hK K')
    refine ord_seals rfl rfl (fun K' hK => ?_)
    go_simp
    refine (qMove_any hT2.pull3 xi u).mono ?_
    rintro e w3 ⟨rfl, hS3⟩
    refine hK (fun _ => True) _ _ trivial ?_
    clear hK K'
    go_simp
    iterate 1 (refine ord_pure rfl rfl rfl (fun K' hK => ?_); go_big_quiet_op; refine hK _ ?_; clear hK K')
    refine ord_nil ?_
    go_wp2_with fail
    go_ret
    rw [HNC.out]
    refine ⟨rfl, Sat.tab_shut (v := .slice (some ⟨g, 0, none⟩) R.length c) (q := qq) HG.out ?_⟩
    rw [setDue_cells, setDue_length, ents_setDue]
    exact (hS3.to (by ac_rfl : _ = blk w.heap.size (.cells Q 67) • blk t (.cells #[.slice (some ⟨g, 0, none⟩) R.length c, .pointer (some ⟨qq, 0, none⟩), .int .i64 next] 166) • arr 169 (40 + 1) (.slice (some ⟨g, 0, none⟩) R.length c) R.length (R.flatMap (itmC Qry.enc)) • queue qq room (withDue (ents R) xi u) • F)).drop
end
end Go.Proofs.YtepaanpdjadakaaDoor
