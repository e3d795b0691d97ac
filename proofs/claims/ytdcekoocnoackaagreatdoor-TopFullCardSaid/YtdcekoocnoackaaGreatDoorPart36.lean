import Derived.Test.YtdcekoocnoackaaGreatDoorPart33

/-! Flows: find, Get, All. -/
namespace Go.Proofs.YtdcekoocnoackaaGreatDoor
open Go Go.RowKit

attribute [local irreducible] wpOrd
theorem ptrAt_hit {R : List FIt} {q : Tup} {k : Nat} {x : FIt} (h : R[k]? = some x) (hf : isW q x = true) (hn : ∀ j y, j < k → R[j]? = some y → isW q y = false) : ptrAt R q = .pointer (some ⟨x.key.p, 0, none⟩) := by
  have : R.find? (isW q) = some x := by
    obtain ⟨h1, h2⟩ := List.getElem?_eq_some_iff.1 h
    rw [List.find?_eq_some_iff_getElem]
    exact ⟨hf, k, h1, h2, fun j hj => by have := hn j R[j] hj (List.getElem?_eq_getElem _); simp [this]⟩
  unfold ptrAt
  rw [this]
theorem ptrAt_miss {R : List FIt} {q : Tup} (hn : ∀ j y, j < R.length → R[j]? = some y → isW q y = false) : ptrAt R q = .pointer none := by
  have : R.find? (isW q) = none := by
    rw [List.find?_eq_none]
    intro x hx
    obtain ⟨i, hi⟩ := List.mem_iff_getElem?.1 hx
    rw [hn i x (List.getElem?_eq_some_iff.1 hi).1 hi]
    exact Bool.false_ne_true
  unfold ptrAt
  rw [this]
theorem tup_load {w : World} {p : Nat} {x : FIt} (h : w.heap[p]? = some (.cells (flC x).toArray 153)) : (Instr.loadAt 39 (.pointer (some ⟨p, 0, none⟩))).run Tryz.prog w = .ok (.agg x.key.tup.enc.toArray) w :=
  run_loadAt_row h Tryz.underlying39 rfl (by rw [Tup.enc_length]; kernel_rfl) (fun j u hu => by
    have hj : j < 37 := by have := (List.getElem?_eq_some_iff.1 hu).1; rwa [Tup.enc_length] at this
    rw [List.getElem?_toArray, Nat.zero_add, flC_tup x j hj]; exact hu)
theorem flw_load {w : World} {p : Nat} {x : FIt} (h : w.heap[p]? = some (.cells (flC x).toArray 153)) : (Instr.loadAt 149 (.pointer (some ⟨p, 0, none⟩))).run Tryz.prog w = .ok (.agg (flwOf x).enc.toArray) w :=
  run_loadAt_row h Tryz.underlying149 rfl (by rw [Flw.enc_length]; kernel_rfl) (fun j u hu => by
    have hj : j < 40 := by have := (List.getElem?_eq_some_iff.1 hu).1; rwa [Flw.enc_length] at this
    rw [List.getElem?_toArray, Nat.zero_add, flC_flw x j hj]; exact hu)
section
variable {B : Nat} {w0 w w' : World} {F : HP} {R : List FIt} {t room : Nat} {next : Int}
set_option maxRecDepth 8000 in
set_option maxHeartbeats 4000000 in
theorem flFind_any (h : Sat B w0 w (fltab t room R next • F)) (q : Tup) : Calls Tryz.prog 125 #[.pointer (some ⟨t, 0, none⟩), .agg q.enc.toArray] w fun e w' => e = .returned (ptrAt R q) ∧ Sat B w0 w' (fltab t room R next • F) := by
  have hX := h.alloc (.cells q.enc.toArray 39)
  have hlq : ∀ W, W.heap[w.heap.size]? = some (.cells q.enc.toArray 39) → (Instr.loadAt 39 (.pointer (some ⟨w.heap.size, 0, none⟩))).run Tryz.prog W = .ok (.agg q.enc.toArray) W :=
    fun W h => run_loadAt_row h Tryz.underlying39 rfl (by rw [Tup.enc_length]; kernel_rfl) (fun j u hu => by simpa using hu)
  have HLQ := Lib.hid hlq
  have HEQ := Lib.hid (fun (x : Tup) (w : World) => (tup_eq 9996 x q : EqV Tryz.prog w 10000 39 _ _ (decide (x = q))))
  obtain ⟨A, c, qq, hg, hl1, hl2, hT⟩ := hX.pull2.fl_open
  have d1 : (w.alloc (.cells q.enc.toArray 39)).cell? ⟨t, 0, none⟩ = some (.slice A R.length c) := cell_heap hT.heap rfl
  have HG := Lib.hid hg
  have hRl : R.length ≤ 1000 := by omega
  clear hlq hX h hg hl1
  generalize q.enc.toArray = QE at *
  generalize hxb : w.heap.size = xb at *
  go_enter Tryz.func125, Tryz.ntmps125
  go_wp2_with fail
  try rw [hxb]
  go_loopw [6, 14] (fun _ s wr => ∃ k : Nat, k ≤ R.length ∧ s = .int .i64 k ∧ Sat B w0 wr (blk t (.cells #[.slice A R.length c, .pointer (some ⟨qq, 0, none⟩), .int .i64 next] 119) • arr 151 1 (.slice A R.length c) R.length (R.flatMap ptrC) • queue qq room (ents R) • its R (blk xb (.cells QE 39) • F)) ∧ Hid (∀ j y, j < k → R[j]? = some y → isW q y = false)) (fun _ s _ => R.length - (intOf s).toNat)
  case atStart => exact ⟨0, Nat.zero_le _, rfl, hT, Lib.hid fun j y hj => absurd hj (Nat.not_lt_zero _)⟩
  case round =>
    clear hT d1 hxb
    obtain ⟨k, hk, rfl, hS, HK⟩ := hrel
    by_cases hlt : k < R.length
    · obtain ⟨x, hxk⟩ : ∃ x, R[k]? = some x := ⟨_, List.getElem?_eq_getElem hlt⟩
      obtain ⟨g, rfl, _, hc⟩ := hS.pull2.arr_at ptrC_length rfl hxk
      have hltz : (k : Int) < R.length := by omega
      have dp := hc 0 (.pointer (some ⟨x.key.p, 0, none⟩)) rfl
      rw [Nat.mul_one, Nat.add_zero] at dp
      have hlx : ∀ W, Sat B w0 W (blk t (.cells #[.slice (some ⟨g, 0, none⟩) R.length c, .pointer (some ⟨qq, 0, none⟩), .int .i64 next] 119) • arr 151 1 (.slice (some ⟨g, 0, none⟩) R.length c) R.length (R.flatMap ptrC) • queue qq room (ents R) • its R (blk xb (.cells QE 39) • F)) → (Instr.loadAt 39 (.pointer (some ⟨x.key.p, 0, none⟩))).run Tryz.prog W = .ok (.agg x.key.tup.enc.toArray) W ∧ W.heap[xb]? = some (.cells QE 39) := by
        intro W hW
        refine ⟨tup_load (hW.drop.drop.drop.it_heap hxk), (Sat.its_drop R _ hW.drop.drop.drop).heap⟩
      have HLX := Lib.hid hlx
      have HX := Lib.hid hxk
      have he := HEQ.out x.key.tup
      have hD := hS.drew
      clear hlx hc hxk
      cases hq : decide (x.key.tup = q) with
      | false =>
        have HNO := Lib.hid (show isW q x = false from hq)
        rw [hq] at he
        have HE := Lib.hid he
        clear hq he hS
        generalize x.key.tup.enc.toArray = XE at *
        generalize x.key.p = xp at *
        go_wp2_with fail
        try go_frame
        refine wp_region_ord [(0, .pure), (1, .pure), (2, .pure), (3, .pure), (4, .quiet), (5, .quiet), (6, .pure)] (by kernel_rfl) (by kernel_rfl)
          (fun w' => Sat B w0 w' (blk t (.cells #[.slice (some ⟨g, 0, none⟩) R.length c, .pointer (some ⟨qq, 0, none⟩), .int .i64 next] 119) • arr 151 1 (.slice (some ⟨g, 0, none⟩) R.length c) R.length (R.flatMap ptrC) • queue qq room (ents R) • its R (blk xb (.cells QE 39) • F))) hD ?_
        iterate 4 (refine ord_pure rfl rfl rfl (fun K' hK => ?_); go_big_quiet_op; refine hK _ ?_; clear hK K')
        refine ord_load (t := 39) rfl rfl rfl (p := .pointer (some ⟨xp, 0, none⟩)) (v := .agg XE) rfl (fun w' hC => (HLX.out _ hC).1) (fun K' hK => ?_)
        go_simp
        refine hK _ ?_
        clear hK K'
        refine ord_load (t := 39) rfl rfl rfl (p := .pointer (some ⟨xb, 0, none⟩)) (v := .agg QE) rfl (fun w' hC => HLQ.out _ (HLX.out _ hC).2) (fun K' hK => ?_)
        go_simp
        refine hK _ ?_
        clear hK K'
        refine ord_eql rfl rfl rfl rfl rfl (by kernel_rfl) (fun w' => HE.out w') (fun K' hK => ?_)
        go_simp
        refine hK _ ?_
        clear hK K'
        refine ord_nil ?_
        go_wp2_with fail
        go_roundw
        case rel => exact ⟨k + 1, by omega, by go_num, hD, Lib.hid (plc_next HK.out HX.out HNO.out)⟩
        case measure => simp [intOf]; omega
      | true =>
        have HP := Lib.hid (ptrAt_hit HX.out (show isW q x = true from hq) HK.out)
        rw [hq] at he
        have HE := Lib.hid he
        clear hq he hS
        generalize x.key.tup.enc.toArray = XE at *
        generalize x.key.p = xp at *
        go_wp2_with fail
        try go_frame
        refine wp_region_ord [(0, .pure), (1, .pure), (2, .pure), (3, .pure), (4, .quiet), (5, .quiet), (6, .pure)] (by kernel_rfl) (by kernel_rfl)
          (fun w' => Sat B w0 w' (blk t (.cells #[.slice (some ⟨g, 0, none⟩) R.length c, .pointer (some ⟨qq, 0, none⟩), .int .i64 next] 119) • arr 151 1 (.slice (some ⟨g, 0, none⟩) R.length c) R.length (R.flatMap ptrC) • queue qq room (ents R) • its R (blk xb (.cells QE 39) • F))) hD ?_
        iterate 4 (refine ord_pure rfl rfl rfl (fun K' hK => ?_); go_big_quiet_op; refine hK _ ?_; clear hK K')
        refine ord_load (t := 39) rfl rfl rfl (p := .pointer (some ⟨xp, 0, none⟩)) (v := .agg XE) rfl (fun w' hC => (HLX.out _ hC).1) (fun K' hK => ?_)
        go_simp
        refine hK _ ?_
        clear hK K'
        refine ord_load (t := 39) rfl rfl rfl (p := .pointer (some ⟨xb, 0, none⟩)) (v := .agg QE) rfl (fun w' hC => HLQ.out _ (HLX.out _ hC).2) (fun K' hK => ?_)
        go_simp
        refine hK _ ?_
        clear hK K'
        refine ord_eql rfl rfl rfl rfl rfl (by kernel_rfl) (fun w' => HE.out w') (fun K' hK => ?_)
        go_simp
        refine hK _ ?_
        clear hK K'
        refine ord_nil ?_
        go_wp2_with fail
        go_ret
        rw [HP.out]
        refine ⟨rfl, (Sat.fl_shut (v := .slice (some ⟨g, 0, none⟩) R.length c) (q := qq) HG.out hD).pull2.drop⟩
    · obtain rfl : k = R.length := by omega
      have hltz : ¬ (R.length : Int) < R.length := by omega
      have HP := Lib.hid (ptrAt_miss HK.out)
      go_wp2_with fail
      go_ret
      rw [HP.out]
      exact ⟨rfl, (Sat.fl_shut (v := .slice A R.length c) (q := qq) HG.out hS).pull2.drop⟩
def zFlw : Flw := ⟨⟨zAdr, zAdr, 0, 0, 0⟩, 0, 0, 0⟩
theorem zFlw_lit : zFlw.enc.toArray = #[.bool false, .int .u8 0, .int .u8 0, .int .u8 0, .int .u8 0, .int .u8 0, .int .u8 0, .int .u8 0, .int .u8 0, .int .u8 0, .int .u8 0, .int .u8 0, .int .u8 0, .int .u8 0, .int .u8 0, .int .u8 0, .int .u8 0, .bool false, .int .u8 0, .int .u8 0, .int .u8 0, .int .u8 0, .int .u8 0, .int .u8 0, .int .u8 0, .int .u8 0, .int .u8 0, .int .u8 0, .int .u8 0, .int .u8 0, .int .u8 0, .int .u8 0, .int .u8 0, .int .u8 0, .int .i64 0, .int .i64 0, .int .i64 0, .int .i64 0, .int .i64 0, .int .u64 0] := rfl
/-- What Get answers. -/
def getV (R : List FIt) (q : Tup) : Value := match R.find? (isW q) with
  | some x => .tuple #[.agg (flwOf x).enc.toArray, .bool true]
  | none => .tuple #[.agg zFlw.enc.toArray, .bool false]
theorem get_cases (R : List FIt) (q : Tup) : (ptrAt R q = .pointer none ∧ getV R q = .tuple #[.agg zFlw.enc.toArray, .bool false] ∧ R.any (isW q) = false) ∨ ∃ (k : Nat) (x : FIt), R[k]? = some x ∧ x.key.tup = q ∧ ptrAt R q = .pointer (some ⟨x.key.p, 0, none⟩) ∧ getV R q = .tuple #[.agg (flwOf x).enc.toArray, .bool true] ∧ R.any (isW q) = true := by
  unfold getV ptrAt
  cases h : R.find? (isW q) with
  | none =>
    rw [List.find?_eq_none] at h
    exact .inl ⟨rfl, rfl, List.any_eq_false.2 h⟩
  | some x =>
    have h1 := List.find?_some h
    have h2 := List.mem_of_find?_eq_some h
    obtain ⟨k, hk⟩ := List.mem_iff_getElem?.1 h2
    exact .inr ⟨k, x, hk, by simpa [isW] using h1, rfl, rfl, List.any_eq_true.2 ⟨x, h2, h1⟩⟩
theorem flw_store (f : Flw) {W : World} {x : Nat} {cur : Array Value} (hS : Sat B w0 W (blk x (.cells cur 149) • F)) (hc : cur.size = 40) : ∃ W', (Instr.storeAt 149 (.pointer (some ⟨x, 0, none⟩)) (.agg f.enc.toArray)).run Tryz.prog W = .ok () W' ∧ Sat B w0 W' (blk x (.cells f.enc.toArray 149) • F) := by
  have hst := run_storeAt_row (P := Tryz.prog) (o := 0) (ty := 149) (v := .agg f.enc.toArray) hS.heap (by simp only [Value.cells, List.size_toArray, Flw.enc_length]; kernel_rfl) (by simp [Value.cells, hc, Flw.enc_length]) (by simpa [Value.cells] using f.enc_one)
  have hS2 := hS.setRow (cs := splice cur 0 (Value.agg f.enc.toArray).cells.toList)
  refine ⟨_, hst, ?_⟩
  rw [splice_all (by simp [Value.cells, hc, Flw.enc_length])] at hS2 ⊢
  exact hS2
set_option maxRecDepth 8000 in
set_option maxHeartbeats 4000000 in
theorem flGet_any (h : Sat B w0 w (fltab t room R next • F)) (q : Tup) : Calls Tryz.prog 92 #[.pointer (some ⟨t, 0, none⟩), .agg q.enc.toArray] w fun e w' => e = .returned (getV R q) ∧ Sat B w0 w' (fltab t room R next • F) := by
  have hX := (h.alloc (.cells q.enc.toArray 39)).alloc (.cells #[.bool false, .int .u8 0, .int .u8 0, .int .u8 0, .int .u8 0, .int .u8 0, .int .u8 0, .int .u8 0, .int .u8 0, .int .u8 0, .int .u8 0, .int .u8 0, .int .u8 0, .int .u8 0, .int .u8 0, .int .u8 0, .int .u8 0, .bool false, .int .u8 0, .int .u8 0, .int .u8 0, .int .u8 0, .int .u8 0, .int .u8 0, .int .u8 0, .int .u8 0, .int .u8 0, .int .u8 0, .int .u8 0, .int .u8 0, .int .u8 0, .int .u8 0, .int .u8 0, .int .u8 0, .int .i64 0, .int .i64 0, .int .i64 0, .int .i64 0, .int .i64 0, .int .u64 0] 149)
  rw [World.size_alloc] at hX
  have hlq : ∀ W, W.heap[w.heap.size]? = some (.cells q.enc.toArray 39) → (Instr.loadAt 39 (.pointer (some ⟨w.heap.size, 0, none⟩))).run Tryz.prog W = .ok (.agg q.enc.toArray) W :=
    fun W h => run_loadAt_row h Tryz.underlying39 rfl (by rw [Tup.enc_length]; kernel_rfl) (fun j u hu => by simpa using hu)
  have hl1 := hlq _ hX.pull2.heap
  have c1 := flFind_any hX.pull3 q
  clear hlq h hX
  generalize q.enc.toArray = QE at *
  generalize hxb : w.heap.size = xb at *
  rcases get_cases R q with ⟨h1, h2, _⟩ | ⟨k, x, hx, hxq, h1, h2, _⟩
  · rw [h1] at c1
    rw [h2, zFlw_lit]
    clear h1 h2
    go_enter Tryz.func92, Tryz.ntmps92
    go_wp2_with (refine wpList_load_run (t := 39) rfl rfl rfl hl1 ?_)
    try rw [hxb]
    refine c1.mono ?_
    rintro e w1 ⟨rfl, hS1⟩
    obtain ⟨W2, hst, hS2⟩ := flw_store zFlw hS1.pull2 rfl
    rw [zFlw_lit] at hst
    have hld := run_loadAt_row (P := Tryz.prog) (o := 0) (ty := 149) (cs := zFlw.enc) hS2.heap Tryz.underlying149 rfl (by rw [Flw.enc_length]; kernel_rfl) (fun j u hu => by simpa using hu)
    have HS2 := Lib.hid hS2
    rw [zFlw_lit] at hld
    clear c1 hS1 hS2 hl1
    go_wp2_with (refine wpList_store_run (t := 149) rfl rfl rfl rfl hst (stop_ ?_))
    unfold Stop
    go_wp2_with fail
    refine ret_cell_tmp rfl rfl rfl hld rfl ?_
    exact ⟨rfl, HS2.out.drop.pull2.drop⟩
  · rw [h1] at c1
    rw [h2]
    clear h1 h2
    have HX := Lib.hid hx
    clear hx
    go_enter Tryz.func92, Tryz.ntmps92
    go_wp2_with (refine wpList_load_run (t := 39) rfl rfl rfl hl1 ?_)
    try rw [hxb]
    refine c1.mono ?_
    rintro e w1 ⟨rfl, hS1⟩
    obtain ⟨A, c, qq, hg, hl1', hl2, hT⟩ := hS1.fl_open
    have hlf := flw_load (hT.drop.drop.drop.it_heap HX.out)
    obtain ⟨W2, hst, hS2⟩ := flw_store (flwOf x) hS1.pull2 rfl
    have hld := run_loadAt_row (P := Tryz.prog) (o := 0) (ty := 149) (cs := (flwOf x).enc) hS2.heap Tryz.underlying149 rfl (by rw [Flw.enc_length]; kernel_rfl) (fun j u hu => by simpa using hu)
    have HS2 := Lib.hid hS2
    clear c1 hS1 hS2 hl1 hT
    generalize hFE : (flwOf x).enc.toArray = FE at *
    generalize x.key.p = xp at *
    go_wp2_with (first | (refine wpList_load_run (t := 149) rfl rfl rfl hlf ?_) | (refine wpList_store_run (t := 149) rfl rfl rfl rfl hst (stop_ ?_)))
    unfold Stop
    go_wp2_with fail
    refine ret_cell_tmp rfl rfl rfl hld rfl ?_
    exact ⟨by rw [hFE]; rfl, HS2.out.drop.pull2.drop⟩
def flws (R : List FIt) : List Flw := R.map flwOf
theorem flw_zero : ∃ z, (Tryz.prog.info? 149).map (fun i => (i.zero, i.size, i.bytes)) = some (some z, 40, 88) ∧ (Tryz.prog.info? 149).map (fun i => (i.zero, i.size)) = some (some z, 40) ∧ z.cells.size = 40 := by
  obtain ⟨i, hi, hz⟩ := Option.map_eq_some_iff.1 (show (Tryz.prog.info? 149).map (fun i => (i.zero.map fun z => z.cells.size, i.size, i.bytes)) = some (some 40, 40, 88) by kernel_rfl)
  simp only [Prod.mk.injEq] at hz
  obtain ⟨z, hz1, hz2⟩ := Option.map_eq_some_iff.1 hz.1
  exact ⟨z, by simp [hi, hz1, hz.2], by simp [hi, hz1, hz.2], hz2⟩
set_option maxRecDepth 8000 in
set_option maxHeartbeats 4000000 in
theorem flAll_any (h : Sat B w0 w (fltab t room R next • F)) : Calls Tryz.prog 25 #[.pointer (some ⟨t, 0, none⟩)] w fun e w' =>
    ∃ v, e = .returned v ∧ Sat B w0 w' (arr 149 40 v R.length ((flws R).flatMap Flw.enc) • fltab t room R next • F) := by
  obtain ⟨A, c, q, hg, hl1, hl2, hT⟩ := h.fl_open
  have d1 : w.cell? ⟨t, 0, none⟩ = some (.slice A R.length c) := cell_heap hT.heap rfl
  have hS0 := arr_nil (e := 149) (sz := 40) hT
  have HG := Lib.hid hg
  have hRl : R.length ≤ 1000 := by omega
  clear hT h hg hl1
  go_enter Tryz.func25, Tryz.ntmps25
  go_wp2_with fail
  go_loopw [3, 5, 13] (fun v _ s wr => ∃ k : Nat, k ≤ R.length ∧ s = .int .i64 k ∧ Sat B w0 wr (arr 149 40 v k ((flws (R.take k)).flatMap Flw.enc) • blk t (.cells #[.slice A R.length c, .pointer (some ⟨q, 0, none⟩), .int .i64 next] 119) • arr 151 1 (.slice A R.length c) R.length (R.flatMap ptrC) • queue q room (ents R) • its R F)) (fun _ _ s _ => R.length - (intOf s).toNat)
  case atStart => exact ⟨0, Nat.zero_le _, rfl, by simpa [flws] using hS0⟩
  case round =>
    clear hS0 d1
    obtain ⟨k, hk, rfl, hS⟩ := hrel
    obtain ⟨A3, c3, hv3⟩ := hS.arr_form
    subst hv3
    by_cases hlt : k < R.length
    · obtain ⟨x, hxk⟩ : ∃ x, R[k]? = some x := ⟨_, List.getElem?_eq_getElem hlt⟩
      obtain ⟨g, rfl, _, hc⟩ := hS.pull3.arr_at ptrC_length rfl hxk
      have hltz : (k : Int) < R.length := by omega
      have dp := hc 0 (.pointer (some ⟨x.key.p, 0, none⟩)) rfl
      rw [Nat.mul_one, Nat.add_zero] at dp
      have hlf := flw_load (hS.drop.drop.drop.drop.it_heap hxk)
      have hY := hS.alloc_ (.cells (flwOf x).enc.toArray 149)
      obtain ⟨z, hz1, hz2, hz3⟩ := flw_zero
      obtain ⟨v4, w4, hrun, hS4⟩ := hY.append (m := 1) (news := (flwOf x).enc) (t := 52) (ty := 52) (P := Tryz.prog) (x := .slice (some ⟨wr.heap.size, 0, none⟩) 1 1) Tryz.underlying52 hz1 hz3 (by decide) reads_new (by rw [Flw.enc_length]) (flwOf x).enc_one (by unfold maxLen; omega) (by omega)
      have htk : (flws (R.take k)).flatMap Flw.enc ++ (flwOf x).enc = (flws (R.take (k + 1))).flatMap Flw.enc := by
        unfold flws
        rw [List.take_add_one, hxk, Option.toList_some, List.map_append, List.flatMap_append]
        simp
      rw [htk] at hS4
      obtain ⟨A5, c5, rfl⟩ := hS4.arr_form
      have HFL : Hid ((Value.agg (flwOf x).enc.toArray).cells.size = 40) := Lib.hid (by simp [Value.cells, Flw.enc_length])
      clear hS hY hc hxk htk
      generalize (flwOf x).enc.toArray = Y at *
      generalize x.key.p = xp at *
      go_wp2_with (refine wpList_load_run (t := 149) rfl rfl rfl hlf (stop_ ?_))
      unfold Stop
      go_simp
      refine wpList_buildSlice_one (v := .agg Y) rfl rfl rfl Tryz.underlying52 hz2 HFL.out (by decide) (by decide) ?_
      go_simp
      refine wpList_append_run rfl _ _ _ rfl rfl rfl hrun ?_
      go_wp2_with fail
      go_roundw
      case rel => exact ⟨k + 1, by omega, by go_num, hS4⟩
      case measure => simp [intOf]; omega
    · obtain rfl : k = R.length := by omega
      have hltz : ¬ (R.length : Int) < R.length := by omega
      rw [List.take_length] at hS
      go_wp2_with fail
      go_ret
      have h2 := hS.to (by ac_rfl : _ = blk t (.cells #[.slice A R.length c, .pointer (some ⟨q, 0, none⟩), .int .i64 next] 119) • arr 151 1 (.slice A R.length c) R.length (R.flatMap ptrC) • queue q room (ents R) • (arr 149 40 (.slice A3 R.length c3) R.length ((flws R).flatMap Flw.enc) • its R F))
      rw [← its_star] at h2
      exact ⟨_, rfl, (Sat.fl_shut (v := .slice A R.length c) (q := q) HG.out h2).pull2⟩
end
end Go.Proofs.YtdcekoocnoackaaGreatDoor
