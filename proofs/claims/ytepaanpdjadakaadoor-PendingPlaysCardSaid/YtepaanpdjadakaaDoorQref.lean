import Derived.Test.YtepaanpdjadakaaDoorDropP
import Derived.Test.YtepaanpdjadakaaDoorQry
import Derived.Test.YtepaanpdjadakaaDoorPend2
/-! The reference's pending queries: what it holds; place, Has. -/
namespace Go.Proofs.YtepaanpdjadakaaDoor
open Go Go.RowKit

attribute [local irreducible] wpOrd
def keyC (x : Itm Qry) : List Value := x.key.enc
def dueC (x : Itm Qry) : List Value := [.int .u64 x.due]
theorem keyC_length (x : Itm Qry) : (keyC x).length = 40 := Qry.enc_length _
theorem dueC_length (x : Itm Qry) : (dueC x).length = 1 := rfl
theorem keyC_one (R : List (Itm Qry)) : ∀ u ∈ R.flatMap keyC, u.oneCell' = true := by
  intro u hu
  obtain ⟨x, _, hx⟩ := List.mem_flatMap.1 hu
  exact x.key.enc_one u hx
theorem dueC_one (R : List (Itm Qry)) : ∀ u ∈ R.flatMap dueC, u.oneCell' = true := by
  intro u hu
  obtain ⟨x, _, hx⟩ := List.mem_flatMap.1 hu
  simp only [dueC, List.mem_cons, List.not_mem_nil, or_false] at hx
  rw [hx]; rfl
theorem flat_key (R : List (Itm Qry)) : (R.map (·.key)).flatMap Qry.enc = R.flatMap keyC := by rw [List.flatMap_map]; rfl
/-- What a reference holds. -/
def qref (b : Nat) (n : Int) (R : List (Itm Qry)) : HP := hex fun (v : Value) => hex fun (u : Value) => blk b (.cells #[.int .i64 n, v, u] 86) • arr 67 40 v R.length (R.flatMap keyC) • arr 23 1 u R.length (R.flatMap dueC)
section
variable {B : Nat} {w0 w w' : World} {F : HP} {b : Nat} {n : Int} {R : List (Itm Qry)} {v u : Value}
theorem Sat.qref_open (h : Sat B w0 w (qref b n R • F)) : ∃ A c A' c', Sat B w0 w (blk b (.cells #[.int .i64 n, .slice A R.length c, .slice A' R.length c'] 86) • arr 67 40 (.slice A R.length c) R.length (R.flatMap keyC) • arr 23 1 (.slice A' R.length c') R.length (R.flatMap dueC) • F) := by
  unfold qref at h
  rw [hex_star] at h
  obtain ⟨v, h⟩ := h.ex
  rw [hex_star] at h
  obtain ⟨u, h⟩ := h.ex
  have h2 := h.to (by ac_rfl : _ = blk b (.cells #[.int .i64 n, v, u] 86) • arr 67 40 v R.length (R.flatMap keyC) • arr 23 1 u R.length (R.flatMap dueC) • F)
  obtain ⟨A, c, rfl⟩ := h2.pull2.arr_form
  obtain ⟨A', c', rfl⟩ := h2.pull3.arr_form
  exact ⟨A, c, A', c', h2⟩
theorem Sat.qref_shut (h : Sat B w0 w (blk b (.cells #[.int .i64 n, v, u] 86) • arr 67 40 v R.length (R.flatMap keyC) • arr 23 1 u R.length (R.flatMap dueC) • F)) : Sat B w0 w (qref b n R • F) := by
  unfold qref
  rw [hex_star]
  refine Sat.ex_mk v ?_
  rw [hex_star]
  refine Sat.ex_mk u ?_
  exact h.to (by ac_rfl)
theorem keyC_load {g k c x0 : Nat} {A0 : Array Value} {x : Itm Qry} {W : World} {u : Value} (hk : R[k]? = some x) (h : Sat B w0 W (blk x0 (.cells A0 67) • blk b (.cells #[.int .i64 n, .slice (some ⟨g, 0, none⟩) R.length c, u] 86) • arr 67 40 (.slice (some ⟨g, 0, none⟩) R.length c) R.length (R.flatMap keyC) • F)) :
    (Instr.loadAt 67 (.pointer (some ⟨g, k * 40, none⟩))).run Tryd.prog W = .ok (.agg x.key.enc.toArray) W := by
  obtain ⟨g', hg, _, hc⟩ := h.pull3.arr_at keyC_length rfl hk
  simp only [Option.some.injEq, Addr.mk.injEq] at hg
  obtain ⟨rfl, _⟩ := hg
  exact run_loadAt_cells Tryd.underlying67 rfl (by rw [Qry.enc_length]; kernel_rfl) (fun j u hu => by rw [Addr.add_lit]; exact hc j u hu)
set_option maxRecDepth 8000 in
set_option maxHeartbeats 2000000 in
theorem qPlace_any (h : Sat B w0 w (qref b n R • F)) (hl : R.length ≤ 1000) (q : Qry) : Calls Tryd.prog 105 #[.pointer (some ⟨b, 0, none⟩), .agg q.enc.toArray] w fun e w' => e = .returned (.int .i64 (plc (isQ q) R)) ∧ Sat B w0 w' (qref b n R • F) := by
  obtain ⟨A, c, A', c', hS0⟩ := h.qref_open
  have hX := hS0.alloc (.cells q.enc.toArray 67)
  have hlq : ∀ W, W.heap[w.heap.size]? = some (.cells q.enc.toArray 67) → (Instr.loadAt 67 (.pointer (some ⟨w.heap.size, 0, none⟩))).run Tryd.prog W = .ok (.agg q.enc.toArray) W :=
    fun W h => run_loadAt_row h Tryd.underlying67 rfl (by rw [Qry.enc_length]; kernel_rfl) (fun j u hu => by simpa using hu)
  have HLQ := Lib.hid hlq
  have heq := fun (x : Itm Qry) (w : World) => (qry_eq 9996 x.key q : EqV Tryd.prog w 10000 67 _ _ (decide (x.key = q)))
  have HEQ := Lib.hid heq
  clear hlq heq hS0 h
  have HLL := Lib.hid hl
  generalize hsh : Value.slice A' R.length c' = u at *
  clear hsh
  generalize hQ : q.enc.toArray = Q0 at *
  clear hQ
  go_enter Tryd.func105, Tryd.ntmps105
  go_wp2_with fail
  go_loopw [5] (fun i wr => ∃ k : Nat, k ≤ R.length ∧ i = .int .i64 k ∧ Sat B w0 wr (blk w.heap.size (.cells Q0 67) • blk b (.cells #[.int .i64 n, .slice A R.length c, u] 86) • arr 67 40 (.slice A R.length c) R.length (R.flatMap keyC) • arr 23 1 u R.length (R.flatMap dueC) • F) ∧ Hid (∀ j y, j < k → R[j]? = some y → isQ q y = false)) (fun i _ => R.length - (intOf i).toNat)
  case atStart => exact ⟨0, Nat.zero_le _, rfl, hX, Lib.hid fun j y hj => absurd hj (Nat.not_lt_zero _)⟩
  case round =>
    clear hX
    obtain ⟨k, hk, rfl, hS, HK⟩ := hrel
    have d1 : wr.cell? ⟨b, 1, none⟩ = some (.slice A R.length c) := cell_heap hS.pull2.heap rfl
    by_cases hlt : k < R.length
    · obtain ⟨y, hyk⟩ : ∃ y, R[k]? = some y := ⟨_, List.getElem?_eq_getElem hlt⟩
      obtain ⟨g, rfl, _, _⟩ := hS.pull3.arr_at keyC_length rfl hyk
      have hltz : (k : Int) < R.length := by omega
      have HY := Lib.hid hyk
      clear hyk
      cases hq : isQ q y with
      | true =>
        have HQ := Lib.hid (show decide (y.key = q) = true from hq)
        have HQ2 := Lib.hid hq
        clear hq
        go_wp2_with fail
        try go_frame
        refine wp_region_ord [(0, .pure), (1, .pure), (2, .pure), (3, .quiet), (4, .pure), (5, .pure), (6, .quiet), (7, .quiet), (8, .pure)] (by kernel_rfl) (by kernel_rfl)
          (fun w' => Sat B w0 w' (blk w.heap.size (.cells Q0 67) • blk b (.cells #[.int .i64 n, .slice (some ⟨g, 0, none⟩) R.length c, u] 86) • arr 67 40 (.slice (some ⟨g, 0, none⟩) R.length c) R.length (R.flatMap keyC) • arr 23 1 u R.length (R.flatMap dueC) • F)) hS.drew ?_
        iterate 3 (refine ord_pure rfl rfl rfl (fun K' hK => ?_); go_big_quiet_op; refine hK _ ?_; clear hK K')
        refine ord_load (t := 77) rfl rfl rfl (p := .pointer (some ⟨b, 1, none⟩)) (v := .slice (some ⟨g, 0, none⟩) R.length c) rfl (fun w' hC => load_one Tryd.underlying77 rfl (cell_heap hC.pull2.heap rfl)) (fun K' hK => ?_)
        go_simp
        refine hK _ ?_
        clear hK K'
        iterate 2 (refine ord_pure rfl rfl rfl (fun K' hK => ?_); go_big_quiet_op; refine hK _ ?_; clear hK K')
        refine ord_load (t := 67) rfl rfl rfl (p := .pointer (some ⟨g, k * 40, none⟩)) (v := .agg y.key.enc.toArray) rfl (fun w' hC => keyC_load HY.out hC) (fun K' hK => ?_)
        go_simp
        refine hK _ ?_
        clear hK K'
        refine ord_load (t := 67) rfl rfl rfl (p := .pointer (some ⟨w.heap.size, 0, none⟩)) (v := .agg Q0) rfl (fun w' hC => HLQ.out _ hC.heap) (fun K' hK => ?_)
        go_simp
        refine hK _ ?_
        clear hK K'
        refine ord_eql rfl rfl rfl rfl rfl (by kernel_rfl) (fun w' => HEQ.out y w') (fun K' hK => ?_)
        rw [HQ.out]
        go_simp
        refine hK _ ?_
        clear hK K'
        refine ord_nil ?_
        go_wp2_with fail
        go_ret
        rw [plc_hit HY.out HQ2.out HK.out]
        exact ⟨rfl, Sat.qref_shut hS.drew.drop⟩
      | false =>
        have HQ := Lib.hid (show decide (y.key = q) = false from hq)
        have HQ2 := Lib.hid hq
        clear hq
        go_wp2_with fail
        try go_frame
        refine wp_region_ord [(0, .pure), (1, .pure), (2, .pure), (3, .quiet), (4, .pure), (5, .pure), (6, .quiet), (7, .quiet), (8, .pure)] (by kernel_rfl) (by kernel_rfl)
          (fun w' => Sat B w0 w' (blk w.heap.size (.cells Q0 67) • blk b (.cells #[.int .i64 n, .slice (some ⟨g, 0, none⟩) R.length c, u] 86) • arr 67 40 (.slice (some ⟨g, 0, none⟩) R.length c) R.length (R.flatMap keyC) • arr 23 1 u R.length (R.flatMap dueC) • F)) hS.drew ?_
        iterate 3 (refine ord_pure rfl rfl rfl (fun K' hK => ?_); go_big_quiet_op; refine hK _ ?_; clear hK K')
        refine ord_load (t := 77) rfl rfl rfl (p := .pointer (some ⟨b, 1, none⟩)) (v := .slice (some ⟨g, 0, none⟩) R.length c) rfl (fun w' hC => load_one Tryd.underlying77 rfl (cell_heap hC.pull2.heap rfl)) (fun K' hK => ?_)
        go_simp
        refine hK _ ?_
        clear hK K'
        iterate 2 (refine ord_pure rfl rfl rfl (fun K' hK => ?_); go_big_quiet_op; refine hK _ ?_; clear hK K')
        refine ord_load (t := 67) rfl rfl rfl (p := .pointer (some ⟨g, k * 40, none⟩)) (v := .agg y.key.enc.toArray) rfl (fun w' hC => keyC_load HY.out hC) (fun K' hK => ?_)
        go_simp
        refine hK _ ?_
        clear hK K'
        refine ord_load (t := 67) rfl rfl rfl (p := .pointer (some ⟨w.heap.size, 0, none⟩)) (v := .agg Q0) rfl (fun w' hC => HLQ.out _ hC.heap) (fun K' hK => ?_)
        go_simp
        refine hK _ ?_
        clear hK K'
        refine ord_eql rfl rfl rfl rfl rfl (by kernel_rfl) (fun w' => HEQ.out y w') (fun K' hK => ?_)
        rw [HQ.out]
        go_simp
        refine hK _ ?_
        clear hK K'
        refine ord_nil ?_
        go_wp2_with fail
        go_roundw
        case rel => exact ⟨k + 1, by omega, by go_num, hS.drew, Lib.hid (plc_next HK.out HY.out HQ2.out)⟩
        case measure => simp [intOf]; omega
    · obtain rfl : k = R.length := by omega
      have hltz : ¬ (R.length : Int) < R.length := by omega
      go_wp2_with fail
      go_ret
      rw [plc_done HK.out (Nat.le_refl _)]
      exact ⟨rfl, Sat.qref_shut hS.drop⟩
set_option maxRecDepth 8000 in
set_option maxHeartbeats 1000000 in
theorem qHas_any (h : Sat B w0 w (qref b n R • F)) (hl : R.length ≤ 1000) (q : Qry) : Calls Tryd.prog 55 #[.pointer (some ⟨b, 0, none⟩), .agg q.enc.toArray] w fun e w' => e = .returned (.bool (R.any (isQ q))) ∧ Sat B w0 w' (qref b n R • F) := by
  have hX := h.alloc (.cells q.enc.toArray 67)
  have hlq := run_loadAt_row (P := Tryd.prog) (o := 0) (ty := 67) (cs := q.enc) hX.heap Tryd.underlying67 rfl (by rw [Qry.enc_length]; kernel_rfl) (fun j u hu => by simpa using hu)
  have c1 := qPlace_any hX.pull2 hl q
  have hpl := plc_any (isQ q) R
  generalize plc (isQ q) R = m at *
  generalize hQ : q.enc.toArray = Q0 at *
  clear hQ h hX
  cases ha : R.any (isQ q)
  · rw [ha] at hpl
    have hm : decide (0 ≤ m) = false := by
      have : ¬ 0 ≤ m := fun h => absurd (hpl.1 h) (by simp)
      exact decide_eq_false this
    clear hpl ha
    go_enter Tryd.func55, Tryd.ntmps55
    go_wp2_with (refine wpList_load_run (t := 67) rfl rfl rfl hlq ?_)
    refine c1.mono ?_
    rintro e w1 ⟨rfl, hS⟩
    go_wp2_with fail
    go_ret
    exact ⟨rfl, hS.pull2.drop⟩
  · rw [ha] at hpl
    have hm : decide (0 ≤ m) = true := decide_eq_true (hpl.2 rfl)
    clear hpl ha
    go_enter Tryd.func55, Tryd.ntmps55
    go_wp2_with (refine wpList_load_run (t := 67) rfl rfl rfl hlq ?_)
    refine c1.mono ?_
    rintro e w1 ⟨rfl, hS⟩
    go_wp2_with fail
    go_ret
    exact ⟨rfl, hS.pull2.drop⟩
end
end Go.Proofs.YtepaanpdjadakaaDoor
