import Derived.Test.YtepaanpdjadakaaDoorPendA
import Derived.Test.YtepaanpdjadakaaDoorSameQ
import Derived.Test.YtepaanpdjadakaaDoorFullW
import Derived.Test.YtepaanpdjadakaaDoorSeq
import Derived.Deep.Cut
/-! PendingKeeps' walk. -/
namespace Go.Proofs.YtepaanpdjadakaaDoor
open Go Go.RowKit

section
variable {w : World}
attribute [local irreducible] wpOrd
set_option maxRecDepth 8000 in
set_option maxHeartbeats 2000000 in
theorem aIn_any (ss : List Adr) (v : Value) (a : Adr) (hv : RowsAt Adr.enc w v ss) (hl : ss.length ≤ 1000) : Calls Tryd.prog 45 #[v, .agg a.enc.toArray] w fun e w' => e = .returned (.bool (ss.any fun b => decide (b = a))) ∧ Below w.heap.size w w' := by
  obtain ⟨A, c, rfl⟩ := hv.form
  have hl0 : ∀ W, Sat w.heap.size w W (blk w.heap.size (.cells a.enc.toArray 63) • emp) → (Instr.loadAt 63 (.pointer (some ⟨w.heap.size, 0, none⟩))).run Tryd.prog W = .ok (.agg a.enc.toArray) W :=
    fun W hS => run_loadAt_row hS.heap Tryd.underlying63 rfl (by rw [Adr.enc_length]; kernel_rfl) (fun j u hu => by simpa using hu)
  have hX := (Sat.start w).alloc (.cells a.enc.toArray 63)
  have HL0 := Lib.hid hl0
  clear hl0
  go_enter Tryd.func45, Tryd.ntmps45
  go_wp2_with fail
  go_loopw [5] (fun s wr => ∃ k : Nat, k ≤ ss.length ∧ s = .int .i64 k ∧ Sat w.heap.size w wr (blk w.heap.size (.cells a.enc.toArray 63) • emp) ∧ Hid (∀ j y, j < k → ss[j]? = some y → decide (y = a) = false)) (fun s _ => ss.length - (intOf s).toNat)
  case atStart => exact ⟨0, Nat.zero_le _, rfl, hX, Lib.hid fun j y hj => absurd hj (Nat.not_lt_zero _)⟩
  case round =>
    clear hX
    obtain ⟨k, hk, rfl, hS, HK⟩ := hrel
    by_cases hlt : k < ss.length
    · obtain ⟨x, hxk⟩ : ∃ x, ss[k]? = some x := ⟨_, List.getElem?_eq_getElem hlt⟩
      obtain ⟨b, cb, hvb⟩ := hv.some_addr hxk
      cases hvb
      have hltz : (k : Int) < ss.length := by omega
      have heq := fun w : World => (adr_eq 9997 x a : EqV Tryd.prog w 10000 63 _ _ (decide (x = a)))
      have HEQ := Lib.hid heq
      have HX := Lib.hid hxk
      have HV := Lib.hid hv
      clear hxk heq hv
      cases hq : decide (x = a) with
      | true =>
        have HQ := Lib.hid hq
        clear hq
        go_wp2_with fail
        try go_frame
        refine wp_region_ord [(0, .pure), (1, .pure), (2, .pure), (3, .quiet), (4, .quiet), (5, .pure)] (by kernel_rfl) (by kernel_rfl)
          (fun w' => Sat w.heap.size w w' (blk w.heap.size (.cells a.enc.toArray 63) • emp)) hS.drew ?_
        iterate 3 (refine ord_pure rfl rfl rfl (fun K' hK => ?_); go_big_quiet_op; refine hK _ ?_; clear hK K')
        refine ord_load (t := 63) rfl rfl rfl (p := .pointer (some (b.add (k * 17)))) (v := .agg x.enc.toArray) rfl (fun w' hC => (HV.out.below hC.below).agg_at Tryd.underlying63 rfl (by kernel_rfl) Adr.enc_length HX.out rfl) (fun K' hK => ?_)
        go_simp
        refine hK _ ?_
        clear hK K'
        refine ord_load (t := 63) rfl rfl rfl (p := .pointer (some ⟨w.heap.size, 0, none⟩)) (v := .agg a.enc.toArray) rfl (fun w' hC => HL0.out _ hC) (fun K' hK => ?_)
        go_simp
        refine hK _ ?_
        clear hK K'
        refine ord_eql rfl rfl rfl rfl rfl (by kernel_rfl) (fun w' => HEQ.out w') (fun K' hK => ?_)
        rw [HQ.out]
        go_simp
        refine hK _ ?_
        clear hK K'
        refine ord_nil ?_
        go_wp2_with fail
        go_ret
        have : (ss.any fun b => decide (b = a)) = true := by
          rw [List.any_eq_true]; exact ⟨x, List.mem_of_getElem? HX.out, HQ.out⟩
        rw [this]
        exact ⟨rfl, hS.drew.below⟩
      | false =>
        have HQ := Lib.hid hq
        clear hq
        go_wp2_with fail
        try go_frame
        refine wp_region_ord [(0, .pure), (1, .pure), (2, .pure), (3, .quiet), (4, .quiet), (5, .pure)] (by kernel_rfl) (by kernel_rfl)
          (fun w' => Sat w.heap.size w w' (blk w.heap.size (.cells a.enc.toArray 63) • emp)) hS.drew ?_
        iterate 3 (refine ord_pure rfl rfl rfl (fun K' hK => ?_); go_big_quiet_op; refine hK _ ?_; clear hK K')
        refine ord_load (t := 63) rfl rfl rfl (p := .pointer (some (b.add (k * 17)))) (v := .agg x.enc.toArray) rfl (fun w' hC => (HV.out.below hC.below).agg_at Tryd.underlying63 rfl (by kernel_rfl) Adr.enc_length HX.out rfl) (fun K' hK => ?_)
        go_simp
        refine hK _ ?_
        clear hK K'
        refine ord_load (t := 63) rfl rfl rfl (p := .pointer (some ⟨w.heap.size, 0, none⟩)) (v := .agg a.enc.toArray) rfl (fun w' hC => HL0.out _ hC) (fun K' hK => ?_)
        go_simp
        refine hK _ ?_
        clear hK K'
        refine ord_eql rfl rfl rfl rfl rfl (by kernel_rfl) (fun w' => HEQ.out w') (fun K' hK => ?_)
        rw [HQ.out]
        go_simp
        refine hK _ ?_
        clear hK K'
        refine ord_nil ?_
        go_wp2_with fail
        go_roundw
        case rel => exact ⟨k + 1, by omega, by go_num, hS.drew, Lib.hid (plc_next (f := fun b => decide (b = a)) HK.out HX.out HQ.out)⟩
        case measure => simp [intOf]; omega
    · obtain rfl : k = ss.length := by omega
      have hltz : ¬ (ss.length : Int) < ss.length := by omega
      go_wp2_with fail
      go_ret
      have : (ss.any fun b => decide (b = a)) = false := by
        rw [List.any_eq_false]
        intro y hy e
        obtain ⟨i, hi⟩ := List.mem_iff_getElem?.1 hy
        have := HK.out i y (List.getElem?_eq_some_iff.1 hi).1 hi
        rw [this] at e; cases e
      rw [this]
      exact ⟨rfl, hS.below⟩
def b5 (z : Int) : Int := IntKind.u8.wrap ((IntKind.u64.wrap z).tmod 5)
def adr5 (z : Int) : Adr := ⟨false, [9, b5 z, 0, 0, 0, 0, 0, 0, 0, 0, 0, 0, 0, 0, 0, 0], rfl⟩
set_option maxRecDepth 20000 in
set_option maxHeartbeats 1000000 in
theorem adr5_any (z : Int) (w : World) : Calls Tryd.prog 44 #[.int .i64 z] w fun e w' => e = .returned (.agg (adr5 z).enc.toArray) ∧ Below w.heap.size w w' := by
  have hst : ∀ (W : World) (zz : Array Value), zz.size = 17 → (Instr.storeAt 63 (.pointer (some ⟨W.heap.size, 0, none⟩)) (.agg (adr5 z).enc.toArray)).run Tryd.prog (W.alloc (.cells zz 63)) = .ok () (W.alloc (.cells (adr5 z).enc.toArray 63)) :=
    fun W zz hz => run_storeAt_new (v := .agg (adr5 z).enc.toArray) (by simp only [Value.cells, List.size_toArray, Adr.enc_length]; kernel_rfl) (by simp only [Value.cells, List.size_toArray, Adr.enc_length]; exact hz) (by simpa [Value.cells] using (adr5 z).enc_one)
  go_enter Tryd.func44, Tryd.ntmps44
  go_wp2_with (refine wpList_store_run (t := 63) rfl rfl rfl rfl (hst _ _ rfl) ?_)
  refine ret_cell rfl rfl (run_loadAt_row (heap_alloc_new _ _) Tryd.underlying63 rfl (by rw [Adr.enc_length]; kernel_rfl) (fun j u hu => by simpa using hu)) rfl ⟨rfl, (Below.refl _ _).alloc (Nat.le_refl _) _⟩
end
end Go.Proofs.YtepaanpdjadakaaDoor
