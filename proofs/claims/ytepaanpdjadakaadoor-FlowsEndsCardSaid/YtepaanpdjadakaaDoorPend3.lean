import Derived.Test.YtepaanpdjadakaaDoorDropP
import Derived.Test.YtepaanpdjadakaaDoorQry
import Derived.Test.YtepaanpdjadakaaDoorPend2
/-! Tables of queries: Contains, Keep. -/
namespace Go.Proofs.YtepaanpdjadakaaDoor
open Go Go.RowKit

section
variable {B : Nat} {w0 w w' : World} {F X : HP} {R : List (Itm Qry)} {t room : Nat} {next : Int}
attribute [local irreducible] wpOrd
set_option maxRecDepth 8000 in
set_option maxHeartbeats 2000000 in
theorem aIndex_any (ss : List Adr) (v : Value) (a : Adr) (hv : RowsAt Adr.enc w v ss) (hl : ss.length ≤ 1000) : Calls Tryd.prog 142 #[v, .agg a.enc.toArray] w fun e w' => e = .returned (.int .i64 (plc (fun b => decide (a = b)) ss)) ∧ Below w.heap.size w w' := by
  obtain ⟨A, c, rfl⟩ := hv.form
  have hl0 : ∀ W, Sat w.heap.size w W (blk w.heap.size (.cells a.enc.toArray 63) • emp) → (Instr.loadAt 63 (.pointer (some ⟨w.heap.size, 0, none⟩))).run Tryd.prog W = .ok (.agg a.enc.toArray) W :=
    fun W hS => run_loadAt_row hS.heap Tryd.underlying63 rfl (by rw [Adr.enc_length]; kernel_rfl) (fun j u hu => by simpa using hu)
  have hX := (Sat.start w).alloc (.cells a.enc.toArray 63)
  have HL0 := Lib.hid hl0
  clear hl0
  go_enter Tryd.func142, Tryd.ntmps142
  go_wp2_with fail
  go_loopw [5, 8] (fun _ s wr => ∃ k : Nat, k ≤ ss.length ∧ s = .int .i64 k ∧ Sat w.heap.size w wr (blk w.heap.size (.cells a.enc.toArray 63) • emp) ∧ Hid (∀ j y, j < k → ss[j]? = some y → decide (a = y) = false)) (fun _ s _ => ss.length - (intOf s).toNat)
  case atStart => exact ⟨0, Nat.zero_le _, rfl, hX, Lib.hid fun j y hj => absurd hj (Nat.not_lt_zero _)⟩
  case round =>
    clear hX
    obtain ⟨k, hk, rfl, hS, HK⟩ := hrel
    by_cases hlt : k < ss.length
    · obtain ⟨x, hxk⟩ : ∃ x, ss[k]? = some x := ⟨_, List.getElem?_eq_getElem hlt⟩
      obtain ⟨b, cb, hvb⟩ := hv.some_addr hxk
      cases hvb
      have hltz : (k : Int) < ss.length := by omega
      have heq := fun w : World => (adr_eq 9997 a x : EqV Tryd.prog w 10000 63 _ _ (decide (a = x)))
      have HEQ := Lib.hid heq
      have HX := Lib.hid hxk
      have HV := Lib.hid hv
      clear hxk heq hv
      cases hq : decide (a = x) with
      | true =>
        have HQ := Lib.hid hq
        clear hq
        go_wp2_with fail
        try go_frame
        refine wp_region_ord [(0, .quiet), (1, .pure), (2, .pure), (3, .pure), (4, .quiet), (5, .pure)] (by kernel_rfl) (by kernel_rfl)
          (fun w' => Sat w.heap.size w w' (blk w.heap.size (.cells a.enc.toArray 63) • emp)) hS.drew ?_
        refine ord_load (t := 63) rfl rfl rfl (p := .pointer (some ⟨w.heap.size, 0, none⟩)) (v := .agg a.enc.toArray) rfl (fun w' hC => HL0.out _ hC) (fun K' hK => ?_)
        go_simp
        refine hK _ ?_
        clear hK K'
        iterate 3 (refine ord_pure rfl rfl rfl (fun K' hK => ?_); go_big_quiet_op; refine hK _ ?_; clear hK K')
        refine ord_load (t := 63) rfl rfl rfl (p := .pointer (some (b.add (k * 17)))) (v := .agg x.enc.toArray) rfl (fun w' hC => (HV.out.below hC.below).agg_at Tryd.underlying63 rfl (by kernel_rfl) Adr.enc_length HX.out rfl) (fun K' hK => ?_)
        go_simp
        refine hK _ ?_
        clear hK K'
        refine ord_eql rfl rfl rfl rfl rfl (by kernel_rfl) (fun w' => HEQ.out w') (fun K' hK => ?_)
        rw [HQ.out]
        go_simp
        refine hK _ ?_
        clear hK K'
        refine ord_nil ?_
        go_wp2_with fail
        go_ret
        rw [plc_hit (f := fun b => decide (a = b)) HX.out HQ.out HK.out]
        exact ⟨rfl, hS.drew.below⟩
      | false =>
        have HQ := Lib.hid hq
        clear hq
        go_wp2_with fail
        try go_frame
        refine wp_region_ord [(0, .quiet), (1, .pure), (2, .pure), (3, .pure), (4, .quiet), (5, .pure)] (by kernel_rfl) (by kernel_rfl)
          (fun w' => Sat w.heap.size w w' (blk w.heap.size (.cells a.enc.toArray 63) • emp)) hS.drew ?_
        refine ord_load (t := 63) rfl rfl rfl (p := .pointer (some ⟨w.heap.size, 0, none⟩)) (v := .agg a.enc.toArray) rfl (fun w' hC => HL0.out _ hC) (fun K' hK => ?_)
        go_simp
        refine hK _ ?_
        clear hK K'
        iterate 3 (refine ord_pure rfl rfl rfl (fun K' hK => ?_); go_big_quiet_op; refine hK _ ?_; clear hK K')
        refine ord_load (t := 63) rfl rfl rfl (p := .pointer (some (b.add (k * 17)))) (v := .agg x.enc.toArray) rfl (fun w' hC => (HV.out.below hC.below).agg_at Tryd.underlying63 rfl (by kernel_rfl) Adr.enc_length HX.out rfl) (fun K' hK => ?_)
        go_simp
        refine hK _ ?_
        clear hK K'
        refine ord_eql rfl rfl rfl rfl rfl (by kernel_rfl) (fun w' => HEQ.out w') (fun K' hK => ?_)
        rw [HQ.out]
        go_simp
        refine hK _ ?_
        clear hK K'
        refine ord_nil ?_
        go_wp2_with fail
        go_roundw
        case rel => exact ⟨k + 1, by omega, by go_num, hS.drew, Lib.hid (plc_next (f := fun b => decide (a = b)) HK.out HX.out HQ.out)⟩
        case measure => simp [intOf]; omega
    · obtain rfl : k = ss.length := by omega
      have hltz : ¬ (ss.length : Int) < ss.length := by omega
      go_wp2_with fail
      go_ret
      rw [plc_done (f := fun b => decide (a = b)) HK.out (Nat.le_refl _)]
      exact ⟨rfl, hS.below⟩
set_option maxRecDepth 8000 in
theorem aContains_any (ss : List Adr) (v : Value) (a : Adr) (hv : RowsAt Adr.enc w v ss) (hl : ss.length ≤ 1000) : Calls Tryd.prog 102 #[v, .agg a.enc.toArray] w fun e w' => e = .returned (.bool (ss.any fun b => decide (a = b))) ∧ Below w.heap.size w w' := by
  have hX := (Sat.start w).alloc_ (.cells a.enc.toArray 63)
  have hl1 : (Instr.loadAt 63 (.pointer (some ⟨w.heap.size, 0, none⟩))).run Tryd.prog (w.alloc (.cells a.enc.toArray 63)) = .ok (.agg a.enc.toArray) (w.alloc (.cells a.enc.toArray 63)) :=
    run_loadAt_row (heap_alloc_new _ _) Tryd.underlying63 rfl (by rw [Adr.enc_length]; kernel_rfl) (fun j u hu => by simpa using hu)
  have c1 := aIndex_any ss v a (hv.below hX.below) hl
  have hpa := plc_any (fun b => decide (a = b)) ss
  generalize a.enc.toArray = Q at *
  generalize plc (fun b => decide (a = b)) ss = m at *
  cases ha : ss.any fun b => decide (a = b)
  · rw [ha] at hpa
    have hm : m < 0 := by
      by_cases h : 0 ≤ m
      · exact absurd (hpa.1 h) (by simp)
      · omega
    have hmb : decide (0 ≤ m) = false := decide_eq_false (by omega)
    clear hpa ha hm hv
    go_enter Tryd.func102, Tryd.ntmps102
    go_wp2_with (refine wpList_load_run (t := 63) rfl rfl rfl hl1 ?_)
    refine c1.mono ?_
    rintro e w1 ⟨rfl, hb⟩
    have hS2 := hX.below_ hb
    go_wp2_with fail
    go_ret
    exact ⟨rfl, hS2.below⟩
  · rw [ha] at hpa
    have hm : 0 ≤ m := hpa.2 rfl
    clear hpa ha hv
    go_enter Tryd.func102, Tryd.ntmps102
    go_wp2_with (refine wpList_load_run (t := 63) rfl rfl rfl hl1 ?_)
    refine c1.mono ?_
    rintro e w1 ⟨rfl, hb⟩
    have hS2 := hX.below_ hb
    go_wp2_with fail
    go_ret
    exact ⟨rfl, hS2.below⟩
set_option maxRecDepth 8000 in
set_option maxHeartbeats 2000000 in
theorem keep1_any {bs : Nat} {v : Value} {G : HP} {x : Itm Qry} (ss : List Adr) (hl : ss.length ≤ 1000)
    (h : Sat B w0 w (blk bs (.cells #[v] 76) • G)) (hv : RowsAt Adr.enc w v ss) :
    Calls Tryd.prog 101 #[.agg (itmC Qry.enc x).toArray, .pointer (some ⟨bs, 0, none⟩)] w fun e w' => e = .returned (.bool (away ss x)) ∧ Below w.heap.size w w' := by
  unfold away
  have hX := h.alloc (.cells (itmC Qry.enc x).toArray 169)
  have d1 : (w.alloc (.cells (itmC Qry.enc x).toArray 169)).cell? ⟨bs, 0, none⟩ = some v := cell_heap hX.pull2.heap rfl
  have hl1 : (Instr.loadAt 63 (.pointer (some ⟨w.heap.size, 17, none⟩))).run Tryd.prog (w.alloc (.cells (itmC Qry.enc x).toArray 169)) = .ok (.agg x.key.server.enc.toArray) (w.alloc (.cells (itmC Qry.enc x).toArray 169)) :=
    run_loadAt_row (heap_alloc_new _ _) Tryd.underlying63 rfl (by rw [Adr.enc_length]; kernel_rfl) (fun j u hu => by
      have hj : j < 17 := by have := (List.getElem?_eq_some_iff.1 hu).1; rwa [Adr.enc_length] at this
      have := itmC_key (ek := Qry.enc) x (j := 17 + j) (u := u) (by rw [x.key.at17 j hj]; exact hu)
      simpa using this)
  have hB : Below w.heap.size w (w.alloc (.cells (itmC Qry.enc x).toArray 169)) := (Below.refl _ _).alloc (Nat.le_refl _) _
  have c1 := aContains_any ss v x.key.server (hv.below hB) hl
  obtain ⟨A, c, rfl⟩ := hv.form
  generalize (itmC Qry.enc x).toArray = Y at *
  generalize x.key.server.enc.toArray = XS at *
  generalize (ss.any fun b => decide (x.key.server = b)) = r at *
  clear hX h hv
  go_enter Tryd.func101, Tryd.ntmps101
  go_wp2_with (refine wpList_load_run (t := 63) rfl rfl rfl hl1 ?_)
  refine c1.mono ?_
  rintro e w1 ⟨rfl, hb⟩
  have hb2 := hB.trans (hb.mono (by simp))
  go_wp2_with fail
  go_ret
  exact ⟨rfl, hb2⟩
set_option maxRecDepth 8000 in
theorem pKeep_any (h : Sat B w0 w (ptab t room R next • F)) (ss : List Adr) (v : Value) (hl : ss.length ≤ 1000) (hone : v.oneCell' = true) (hv : ∀ W G, Sat B w0 W (F • G) → RowsAt Adr.enc W v ss) :
    Calls Tryd.prog 46 #[.pointer (some ⟨t, 0, none⟩), v] w fun e w' => e = .returned (.int .i64 ((R.length : Int) - (R.filter fun x => !away ss x).length)) ∧ Sat B w0 w' (ptab t room (R.filter fun x => !away ss x) next • F) := by
  have egd : ∀ args w, (callFunc 101 args).run Tryd.prog w = .ok (.enter 101 args) w := enters_of Tryd.func101 (by kernel_rfl) rfl
  have hX := h.alloc (.cells #[v] 76)
  have c1 := dropP_any (F := emp) (X := blk w.heap.size (.cells #[v] 76) • F) (p := away ss) (g := 101) (lb := #[.pointer (some ⟨w.heap.size, 0, none⟩)]) Qry.enc_length Qry.enc_one egd
    (fun v' qq k x W G hx hg hS => by
      rw [star_assoc] at hS
      exact keep1_any ss hl hS.pull3 (hv W _ (hS.to (by ac_rfl : _ = F • _)))) (hX.add_emp.to (by ac_rfl))
  obtain ⟨A, c, rfl⟩ := (hv w _ (h.to (by ac_rfl : _ = F • _))).form
  generalize (R.length : Int) - (R.filter fun x => !away ss x).length = m at *
  clear egd hX h hv
  go_enter Tryd.func46, Tryd.ntmps46
  go_wp2_with fail
  refine c1.mono ?_
  rintro e w1 ⟨rfl, hS1⟩
  go_wp2_with fail
  go_ret
  rw [star_assoc] at hS1
  exact ⟨rfl, (hS1.to (by ac_rfl : _ = blk w.heap.size (.cells #[.slice A ss.length c] 76) • emp • ptab t room (R.filter fun x => !away ss x) next • F)).drop.drop⟩
theorem pKeep_nil (A : Option Addr) (n c : Nat) (w : World) : Calls Tryd.prog 46 #[.pointer none, .slice A n c] w fun e w' => e = .returned (.int .i64 0) ∧ Below w.heap.size w w' := by
  have hX := (Sat.start w).alloc_ (.cells #[.slice A n c] 76)
  go_enter Tryd.func46, Tryd.ntmps46
  go_wp2_with fail
  refine (dropNilP _ _ _).mono ?_
  rintro e w1 ⟨rfl, hb⟩
  have hS2 := hX.below_ hb
  go_wp2_with fail
  go_ret
  exact ⟨rfl, hS2.below⟩
end
end Go.Proofs.YtepaanpdjadakaaDoor
