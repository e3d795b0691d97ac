import Derived.Test.YtepaanpdjadakaaDoorDropP
import Derived.Test.YtepaanpdjadakaaDoorQry
import Derived.Test.YtepaanpdjadakaaDoorPend1
/-! Tables of queries: All. -/
namespace Go.Proofs.YtepaanpdjadakaaDoor
open Go Go.RowKit

section
variable {B : Nat} {w0 w w' : World} {F X : HP} {R : List (Itm Qry)} {t room : Nat} {next : Int}
theorem qry_zero : ∃ z, (Tryd.prog.info? 67).map (fun i => (i.zero, i.size, i.bytes)) = some (some z, 40, 96) ∧ (Tryd.prog.info? 67).map (fun i => (i.zero, i.size)) = some (some z, 40) ∧ z.cells.size = 40 := by
  obtain ⟨i, hi, hz⟩ := Option.map_eq_some_iff.1 (show (Tryd.prog.info? 67).map (fun i => (i.zero.map fun z => z.cells.size, i.size, i.bytes)) = some (some 40, 40, 96) by kernel_rfl)
  simp only [Prod.mk.injEq] at hz
  obtain ⟨z, hz1, hz2⟩ := Option.map_eq_some_iff.1 hz.1
  exact ⟨z, by simp [hi, hz1, hz.2], by simp [hi, hz1, hz.2], hz2⟩
theorem pAll_nil (w : World) : Calls Tryd.prog 48 #[.pointer none] w fun e w' => e = .returned (.slice none 0 0) ∧ w = w' := by
  go_enter Tryd.func48, Tryd.ntmps48
  go_wp2_with fail
  go_ret
  exact ⟨rfl, rfl⟩
set_option maxRecDepth 8000 in
set_option maxHeartbeats 4000000 in
theorem pAll_any (h : Sat B w0 w (ptab t room R next • F)) : Calls Tryd.prog 48 #[.pointer (some ⟨t, 0, none⟩)] w fun e w' =>
    ∃ v, e = .returned v ∧ Sat B w0 w' (arr 67 40 v R.length ((R.map (·.key)).flatMap Qry.enc) • ptab t room R next • F) := by
  obtain ⟨A, c, q, hg, hl1, hl2, hT⟩ := h.tab_open
  have d1 : w.cell? ⟨t, 0, none⟩ = some (.slice A R.length c) := cell_heap hT.heap rfl
  have hS0 := arr_nil (e := 67) (sz := 40) hT
  have HG := Lib.hid hg
  clear hT h hg
  go_enter Tryd.func48, Tryd.ntmps48
  go_wp2_with fail
  go_loopw [3, 5, 13] (fun v _ s wr => ∃ k : Nat, k ≤ R.length ∧ s = .int .i64 k ∧ Sat B w0 wr (arr 67 40 v k (((R.take k).map (·.key)).flatMap Qry.enc) • blk t (.cells #[.slice A R.length c, .pointer (some ⟨q, 0, none⟩), .int .i64 next] 166) • arr 169 (40 + 1) (.slice A R.length c) R.length (R.flatMap (itmC Qry.enc)) • queue q room (ents R) • F)) (fun _ _ s _ => R.length - (intOf s).toNat)
  case atStart => exact ⟨0, Nat.zero_le _, rfl, by simpa using hS0⟩
  case round =>
    clear hS0 d1
    obtain ⟨k, hk, rfl, hS⟩ := hrel
    obtain ⟨A3, c3, hv3⟩ := hS.arr_form
    subst hv3
    by_cases hlt : k < R.length
    · obtain ⟨x, hxk⟩ : ∃ x, R[k]? = some x := ⟨_, List.getElem?_eq_getElem hlt⟩
      obtain ⟨g, rfl, _, hc⟩ := hS.pull3.arr_at (itmC_length Qry.enc_length) rfl hxk
      have hltz : (k : Int) < R.length := by omega
      have hl : (Instr.loadAt 169 (.pointer (some ⟨g, k * 41, none⟩))).run Tryd.prog wr = .ok (.agg (itmC Qry.enc x).toArray) wr :=
        run_loadAt_cells Tryd.underlying169 rfl (by rw [itmC_length Qry.enc_length]; kernel_rfl) (fun j u hu => by rw [Addr.add_lit]; exact hc j u hu)
      have hst : ∀ (W : World) (z : Array Value), z.size = 41 → (Instr.storeAt 169 (.pointer (some ⟨W.heap.size, 0, none⟩)) (.agg (itmC Qry.enc x).toArray)).run Tryd.prog (W.alloc (.cells z 169)) = .ok () (W.alloc (.cells (itmC Qry.enc x).toArray 169)) :=
        fun W z hz => run_storeAt_new (v := .agg (itmC Qry.enc x).toArray) (by simp only [Value.cells, List.size_toArray, itmC_length Qry.enc_length]; kernel_rfl) (by simp only [Value.cells, List.size_toArray, itmC_length Qry.enc_length]; exact hz) (by simpa [Value.cells] using itmC_one Qry.enc_one x)
      have hX := hS.alloc_ (.cells (itmC Qry.enc x).toArray 169)
      have hkl := key_load (heap_alloc_new wr (.cells (itmC Qry.enc x).toArray 169))
      have hY := hX.alloc_ (.cells x.key.enc.toArray 67)
      obtain ⟨z, hz1, hz2, hz3⟩ := qry_zero
      obtain ⟨v4, w4, hrun, hS4⟩ := hY.append (m := 1) (news := x.key.enc) (t := 77) (ty := 77) (P := Tryd.prog) (x := .slice (some ⟨(wr.alloc (.cells (itmC Qry.enc x).toArray 169)).heap.size, 0, none⟩) 1 1) Tryd.underlying77 hz1 hz3 (by decide) reads_new (by rw [Qry.enc_length]) x.key.enc_one (by unfold maxLen; omega) (by omega)
      rw [World.size_alloc] at hrun
      have htk : ((R.take k).map (·.key)).flatMap Qry.enc ++ x.key.enc = ((R.take (k + 1)).map (·.key)).flatMap Qry.enc := by
        rw [List.take_add_one, hxk, Option.toList_some, List.map_append, List.flatMap_append]
        simp
      rw [htk] at hS4
      obtain ⟨A5, c5, rfl⟩ := hS4.arr_form
      clear hS hX hY hc hxk htk
      generalize hYY : (itmC Qry.enc x).toArray = Y at *
      clear hYY
      go_wp2_with (first | (refine wpList_load_run (t := 169) rfl rfl rfl hl ?_) | (refine wpList_store_run (t := 169) rfl rfl rfl rfl (hst _ _ rfl) (stop_ ?_)))
      unfold Stop
      go_wp2_with (refine wpList_load_run (t := 67) rfl rfl rfl hkl (stop_ ?_))
      unfold Stop
      go_simp
      refine wpList_buildSlice_one (v := .agg x.key.enc.toArray) rfl rfl rfl Tryd.underlying77 hz2 (by simp [Value.cells, Qry.enc_length]) (by decide) (by decide) ?_
      go_simp
      refine wpList_append_run rfl _ _ _ rfl rfl rfl hrun ?_
      go_wp2_with fail
      go_roundw
      case rel => exact ⟨k + 1, by omega, by go_num, hS4⟩
      case measure => simp [intOf]; omega
    · obtain rfl : k = R.length := by omega
      have hltz : ¬ (R.length : Int) < R.length := by omega
      rw [List.take_length] at hS
      go_wp2_with fail
      go_ret
      exact ⟨_, rfl, (Sat.tab_shut (v := .slice A R.length c) (q := q) HG.out (hS.to (by ac_rfl : _ = blk t (.cells #[.slice A R.length c, .pointer (some ⟨q, 0, none⟩), .int .i64 next] 166) • arr 169 (40 + 1) (.slice A R.length c) R.length (R.flatMap (itmC Qry.enc)) • queue q room (ents R) • arr 67 40 (.slice A3 R.length c3) R.length ((R.map (·.key)).flatMap Qry.enc) • F))).pull2⟩
end
end Go.Proofs.YtepaanpdjadakaaDoor
