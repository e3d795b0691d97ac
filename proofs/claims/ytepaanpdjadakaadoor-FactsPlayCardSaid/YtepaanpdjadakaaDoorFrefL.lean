import Derived.Test.YtepaanpdjadakaaDoorFrefP
import Derived.Test.YtepaanpdjadakaaDoorFork
import Derived.Test.YtepaanpdjadakaaDoorFail
/-! The reference's facts: Learn. -/
namespace Go.Proofs.YtepaanpdjadakaaDoor
open Go Go.RowKit

attribute [local irreducible] wpOrd wpTree
section
variable {B : Nat} {w0 w w' : World} {F : HP} {b : Nat} {n : Int} {L : List Fct} {v : Value}
set_option maxRecDepth 8000 in
set_option maxHeartbeats 16000000 in
theorem rLearn_any (h : Sat B w0 w (fref b n L • F)) (hl : L.length ≤ 1000) (hn : (L.map (·.key)).Nodup) (name : ByteArray) (a : Adr) (u : Int) : Calls Tryd.prog 67 #[.pointer (some ⟨b, 0, none⟩), .string name, .agg a.enc.toArray, .int .u64 u] w fun e w' =>
    e = .returned (failV (lrnLC (roomOf n) L ⟨name, a⟩)) ∧ Sat B w0 w' (fref b n (lrnL (roomOf n) L ⟨name, a⟩ u) • F) := by
  obtain ⟨A, c, hS⟩ := h.fref_open
  have hX := (hS.alloc (.cells a.enc.toArray 63)).alloc (.cells #[.int .i64 0, .int .i64 0, .bool false] 46)
  rw [World.size_alloc] at hX
  have hX := hX.to (by ac_rfl : _ = blk b (.cells #[.int .i64 n, .slice A L.length c] 107) • arr 99 19 (.slice A L.length c) L.length (L.flatMap Fct.enc) • blk w.heap.size (.cells a.enc.toArray 63) • blk (w.heap.size + 1) (.cells #[.int .i64 0, .int .i64 0, .bool false] 46) • F)
  have hla : ∀ W, W.heap[w.heap.size]? = some (.cells a.enc.toArray 63) → (Instr.loadAt 63 (.pointer (some ⟨w.heap.size, 0, none⟩))).run Tryd.prog W = .ok (.agg a.enc.toArray) W :=
    fun W h => run_loadAt_row h Tryd.underlying63 rfl (by rw [Adr.enc_length]; kernel_rfl) (fun j u hu => by simpa using hu)
  have HLA := Lib.hid hla
  have HEQ := Lib.hid (fun (x : Adr) (w : World) => (adr_eq 9997 x a : EqV Tryd.prog w 10000 63 _ _ (decide (x = a))))
  have HFB := Lib.hid (fct_built name a u)
  have HLL := Lib.hid hl
  have HNN := Lib.hid hn
  clear hla hS h hn
  generalize hAE : a.enc.toArray = AE at *
  generalize hxb : w.heap.size = xb at *
  clear hAE
  go_enter Tryd.func67, Tryd.ntmps67
  go_wp2_with fail
  try rw [hxb]
  go_loopw [9] (fun s wr => ∃ k : Nat, k ≤ L.length ∧ s = .int .i64 k ∧ Sat B w0 wr (blk b (.cells #[.int .i64 n, .slice A L.length c] 107) • arr 99 19 (.slice A L.length c) L.length (L.flatMap Fct.enc) • blk xb (.cells AE 63) • blk (xb + 1) (.cells #[.int .i64 0, .int .i64 0, .bool false] 46) • F) ∧ Hid (∀ j y, j < k → L[j]? = some y → isKL ⟨name, a⟩ y = false)) (fun s _ => L.length - (intOf s).toNat)
  case atStart => exact ⟨0, Nat.zero_le _, rfl, hX, Lib.hid fun j y hj => absurd hj (Nat.not_lt_zero _)⟩
  case round =>
    clear hX hxb
    obtain ⟨k, hk, rfl, hS, HK⟩ := hrel
    have d1 : wr.cell? ⟨b, 1, none⟩ = some (.slice A L.length c) := cell_heap hS.heap rfl
    by_cases hlt : k < L.length
    · obtain ⟨x, hxk⟩ : ∃ x, L[k]? = some x := ⟨_, List.getElem?_eq_getElem hlt⟩
      obtain ⟨g, rfl, _, hc⟩ := hS.pull2.arr_at Fct.enc_length rfl hxk
      have hltz : (k : Int) < L.length := by omega
      have hlnW : ∀ W, Sat B w0 W (blk b (.cells #[.int .i64 n, .slice (some ⟨g, 0, none⟩) L.length c] 107) • arr 99 19 (.slice (some ⟨g, 0, none⟩) L.length c) L.length (L.flatMap Fct.enc) • blk xb (.cells AE 63) • blk (xb + 1) (.cells #[.int .i64 0, .int .i64 0, .bool false] 46) • F) → (Instr.loadAt 63 (.pointer (some ⟨g, k * 19 + 1, none⟩))).run Tryd.prog W = .ok (.agg x.key.adr.enc.toArray) W ∧ W.cell? ⟨g, k * 19, none⟩ = some (.string x.key.name) := by
        intro W hW
        obtain ⟨g', hg', _, hc'⟩ := hW.pull2.arr_at Fct.enc_length rfl hxk
        simp only [Option.some.injEq, Addr.mk.injEq] at hg'
        obtain ⟨rfl, _⟩ := hg'
        have hd := hc' 0 (.string x.key.name) rfl
        rw [Nat.add_zero] at hd
        refine ⟨run_loadAt_cells Tryd.underlying63 rfl (by rw [Adr.enc_length]; kernel_rfl) (fun j u hu => by
          have hj : j < 17 := by have := (List.getElem?_eq_some_iff.1 hu).1; rwa [Adr.enc_length] at this
          rw [Addr.add_lit, Nat.add_assoc]
          exact hc' (1 + j) u (by rw [x.at0 (1 + j) (by omega), Fk.at1]; exact hu)), hd⟩
      have HLN := Lib.hid hlnW
      have hnb : (x.key.name.toList == name.toList) = decide (x.key.name = name) := strl _ _
      have he := HEQ.out x.key.adr
      have HX := Lib.hid hxk
      have hD := hS.drew
      clear hlnW hc hxk
      cases hq1 : decide (x.key.name = name) with
      | false =>
        have hno : isKL ⟨name, a⟩ x = false := by
          unfold isKL
          refine decide_eq_false fun e => ?_
          rw [e] at hq1
          simp at hq1
        have HNO := Lib.hid hno
        rw [hq1] at hnb
        clear hno hq1 he hS
        generalize x.key.adr.enc.toArray = XE at *
        generalize x.key.name = xn at *
        go_wp2_with fail
        try go_frame
        refine wp_region_ord [(0, .pure), (1, .pure), (2, .pure), (3, .quiet), (4, .pure), (5, .pure), (6, .pure), (7, .quiet), (8, .pure), (9, .pure), (10, .pure), (11, .pure), (12, .pure), (13, .pure), (14, .quiet), (15, .pure), (16, .pure), (17, .pure), (18, .quiet), (19, .quiet), (20, .pure), (21, .pure)] (by kernel_rfl) (by kernel_rfl)
          (fun w' => Sat B w0 w' (blk b (.cells #[.int .i64 n, .slice (some ⟨g, 0, none⟩) L.length c] 107) • arr 99 19 (.slice (some ⟨g, 0, none⟩) L.length c) L.length (L.flatMap Fct.enc) • blk xb (.cells AE 63) • blk (xb + 1) (.cells #[.int .i64 0, .int .i64 0, .bool false] 46) • F)) hD ?_
        iterate 3 (refine ord_pure rfl rfl rfl (fun K' hK => ?_); go_big_quiet_op; refine hK _ ?_; clear hK K')
        refine ord_load (t := 100) rfl rfl rfl (p := .pointer (some ⟨b, 1, none⟩)) (v := .slice (some ⟨g, 0, none⟩) L.length c) rfl (fun w' hC => load_one Tryd.underlying100 rfl (cell_heap hC.heap rfl)) (fun K' hK => ?_)
        go_simp
        refine hK _ ?_
        clear hK K'
        iterate 3 (refine ord_pure rfl rfl rfl (fun K' hK => ?_); go_big_quiet_op; refine hK _ ?_; clear hK K')
        refine ord_load (t := 9) rfl rfl rfl (p := .pointer (some ⟨g, k * 19, none⟩)) (v := .string xn) rfl (fun w' hC => load_one Tryd.underlying9 rfl (HLN.out _ hC).2) (fun K' hK => ?_)
        go_simp
        refine hK _ ?_
        clear hK K'
        iterate 3 (refine ord_pure rfl rfl rfl (fun K' hK => ?_); go_big_quiet_op; refine hK _ ?_; clear hK K')
        iterate 10 (refine ord_skip' rfl rfl (fun K' hK => ?_); go_simp; refine hK _ ?_; clear hK K')
        iterate 1 (refine ord_pure rfl rfl rfl (fun K' hK => ?_); go_big_quiet_op; refine hK _ ?_; clear hK K')
        refine ord_nil ?_
        go_wp2_with fail
        go_roundw
        case rel => exact ⟨k + 1, by omega, by go_num, hD, Lib.hid (plc_next HK.out HX.out HNO.out)⟩
        case measure => simp [intOf]; omega
      | true =>
        cases hq2 : decide (x.key.adr = a) with
        | false =>
          have hno : isKL ⟨name, a⟩ x = false := by
            unfold isKL
            refine decide_eq_false fun e => ?_
            rw [e] at hq2
            simp at hq2
          have HNO := Lib.hid hno
          rw [hq1] at hnb
          rw [hq2] at he
          have HE := Lib.hid he
          clear hno hq1 hq2 hS he
          generalize x.key.adr.enc.toArray = XE at *
          generalize x.key.name = xn at *
          go_wp2_with fail
          try go_frame
          refine wp_region_ord [(0, .pure), (1, .pure), (2, .pure), (3, .quiet), (4, .pure), (5, .pure), (6, .pure), (7, .quiet), (8, .pure), (9, .pure), (10, .pure), (11, .pure), (12, .pure), (13, .pure), (14, .quiet), (15, .pure), (16, .pure), (17, .pure), (18, .quiet), (19, .quiet), (20, .pure), (21, .pure)] (by kernel_rfl) (by kernel_rfl)
            (fun w' => Sat B w0 w' (blk b (.cells #[.int .i64 n, .slice (some ⟨g, 0, none⟩) L.length c] 107) • arr 99 19 (.slice (some ⟨g, 0, none⟩) L.length c) L.length (L.flatMap Fct.enc) • blk xb (.cells AE 63) • blk (xb + 1) (.cells #[.int .i64 0, .int .i64 0, .bool false] 46) • F)) hD ?_
          iterate 3 (refine ord_pure rfl rfl rfl (fun K' hK => ?_); go_big_quiet_op; refine hK _ ?_; clear hK K')
          refine ord_load (t := 100) rfl rfl rfl (p := .pointer (some ⟨b, 1, none⟩)) (v := .slice (some ⟨g, 0, none⟩) L.length c) rfl (fun w' hC => load_one Tryd.underlying100 rfl (cell_heap hC.heap rfl)) (fun K' hK => ?_)
          go_simp
          refine hK _ ?_
          clear hK K'
          iterate 3 (refine ord_pure rfl rfl rfl (fun K' hK => ?_); go_big_quiet_op; refine hK _ ?_; clear hK K')
          refine ord_load (t := 9) rfl rfl rfl (p := .pointer (some ⟨g, k * 19, none⟩)) (v := .string xn) rfl (fun w' hC => load_one Tryd.underlying9 rfl (HLN.out _ hC).2) (fun K' hK => ?_)
          go_simp
          refine hK _ ?_
          clear hK K'
          iterate 6 (refine ord_pure rfl rfl rfl (fun K' hK => ?_); go_big_quiet_op; refine hK _ ?_; clear hK K')
          refine ord_load (t := 100) rfl rfl rfl (p := .pointer (some ⟨b, 1, none⟩)) (v := .slice (some ⟨g, 0, none⟩) L.length c) rfl (fun w' hC => load_one Tryd.underlying100 rfl (cell_heap hC.heap rfl)) (fun K' hK => ?_)
          go_simp
          refine hK _ ?_
          clear hK K'
          iterate 3 (refine ord_pure rfl rfl rfl (fun K' hK => ?_); go_big_quiet_op; refine hK _ ?_; clear hK K')
          refine ord_load (t := 63) rfl rfl rfl (p := .pointer (some ⟨g, k * 19 + 1, none⟩)) (v := .agg XE) rfl (fun w' hC => (HLN.out _ hC).1) (fun K' hK => ?_)
          go_simp
          refine hK _ ?_
          clear hK K'
          refine ord_load (t := 63) rfl rfl rfl (p := .pointer (some ⟨xb, 0, none⟩)) (v := .agg AE) rfl (fun w' hC => HLA.out _ hC.pull3.heap) (fun K' hK => ?_)
          go_simp
          refine hK _ ?_
          clear hK K'
          refine ord_eql rfl rfl rfl rfl rfl (by kernel_rfl) (fun w' => HE.out w') (fun K' hK => ?_)
          go_simp
          refine hK _ ?_
          clear hK K'
          iterate 1 (refine ord_pure rfl rfl rfl (fun K' hK => ?_); go_big_quiet_op; refine hK _ ?_; clear hK K')
          refine ord_nil ?_
          go_wp2_with fail
          go_roundw
          case rel => exact ⟨k + 1, by omega, by go_num, hD, Lib.hid (plc_next HK.out HX.out HNO.out)⟩
          case measure => simp [intOf]; omega
        | true =>
          have hkx : x.key = ⟨name, a⟩ := by
            have h1 := of_decide_eq_true hq1
            have h2 := of_decide_eq_true hq2
            cases hk : x.key with
            | mk n b => rw [hk] at h1 h2; simp only at h1 h2; rw [h1, h2]
          have hany : L.any (isKL ⟨name, a⟩) = true := by rw [List.any_eq_true]; exact ⟨x, List.mem_of_getElem? HX.out, by simp [isKL, hkx]⟩
          have hr : lrnLC (roomOf n) L ⟨name, a⟩ = 0 ∧ lrnL (roomOf n) L ⟨name, a⟩ u = L.set k ⟨x.key, max x.due u⟩ := by
            refine ⟨by unfold lrnLC; rw [hany]; rfl, ?_⟩
            unfold lrnL
            rw [hany, ← upL_set HNN.out HX.out, hkx]
            rfl
          have HR := Lib.hid hr
          obtain ⟨z, hz1, hz2, hz3⟩ := fct_zero
          obtain ⟨v1, w2, hr1, hA1⟩ := (arr_nil (e := 99) (sz := 19) hD).append (m := L.length) (news := L.flatMap Fct.enc) (t := 100) (ty := 100) (P := Tryd.prog) (x := .slice (some ⟨g, 0, none⟩) L.length c) Tryd.underlying100 hz1 hz3 (by decide) hD.pull2.arr_reads (flat_fct L) (flat_fct_one L) (by unfold maxLen; omega) (by omega)
          rw [Nat.zero_add, List.nil_append] at hA1
          rcases hA1.arr_open with ⟨_, h0, _, _⟩ | ⟨g2, cap, cur, rfl, q1, q2, q3, q4, hA2⟩
          · omega
          have hcc : cur[k * 19 + 18]? = some (.int .u64 x.due) := by
            have h1 := flat_get Fct.enc_length L k 18 x HX.out (by decide)
            rw [x.at18, ← q4, List.getElem?_take] at h1
            split at h1
            · simpa using h1
            · cases h1
          obtain ⟨w3, hr2, hA3⟩ := one_store (o := 1) (ty := 100) (u := .slice (some ⟨g2, 0, none⟩) L.length cap) hA2.pull2 (by kernel_rfl) (by simp) rfl rfl
          have hA3d := hA3.drew
          have d3 : w3.drew.cell? ⟨b, 1, none⟩ = some (.slice (some ⟨g2, 0, none⟩) L.length cap) := cell_heap hA3d.heap rfl
          have d4 : w3.drew.cell? ⟨g2, k * 19 + 18, none⟩ = some (.int .u64 x.due) := cell_heap hA3d.pull2.heap hcc
          obtain ⟨w4, hr3, hA4⟩ := one_store (o := k * 19 + 18) (ty := 23) (u := .int .u64 (max x.due u)) hA3d.pull2 (by kernel_rfl) (Array.getElem?_eq_some_iff.1 hcc).1 rfl rfl
          have hcur := set_endA q4 HX.out (max x.due u)
          have hA5 : Sat B w0 w4 (blk (xb + 1) (.cells #[.int .i64 0, .int .i64 0, .bool false] 46) • fref b n (L.set k ⟨x.key, max x.due u⟩) • F) := by
            have h7 := Sat.arr_shut (xs := (L.set k ⟨x.key, max x.due u⟩).flatMap Fct.enc) q1 q2 (by simpa using q3) hcur hA4
            have h8 := (h7.to (by ac_rfl : _ = arr 99 19 (.slice (some ⟨g, 0, none⟩) L.length c) L.length (L.flatMap Fct.enc) • blk xb (.cells AE 63) • blk b (.cells (#[Value.int .i64 n, .slice (some ⟨g, 0, none⟩) L.length c].setIfInBounds 1 (.slice (some ⟨g2, 0, none⟩) L.length cap)) 107) • arr 99 19 (.slice (some ⟨g2, 0, none⟩) L.length cap) L.length ((L.set k ⟨x.key, max x.due u⟩).flatMap Fct.enc) • blk (xb + 1) (.cells #[.int .i64 0, .int .i64 0, .bool false] 46) • F)).drop.drop
            have h9 := Sat.fref_shut (L := L.set k ⟨x.key, max x.due u⟩) (v := .slice (some ⟨g2, 0, none⟩) L.length cap) (by rw [List.length_set]; exact h8)
            exact h9.pull2
          obtain ⟨w5, hst, hS9⟩ := fail_store (c := 0) hA5 rfl
          have hld := fail_load hS9
          have HS9 := Lib.hid hS9.drop
          have HE := Lib.hid he
          rw [hq1] at hnb
          rw [hq2] at HE
          clear hr hany hkx hq1 hq2 hS hS9 hA5 hA4 hA3 hA3d hA2 hA1 hcc hcur q3 q4 hz1 hz2 hz3 he
          generalize x.key.adr.enc.toArray = XE at *
          generalize x.key.name = xn at *
          generalize x.due = xd at *
          go_wp2_with fail
          try go_frame
          refine wp_region_ord [(0, .pure), (1, .pure), (2, .pure), (3, .quiet), (4, .pure), (5, .pure), (6, .pure), (7, .quiet), (8, .pure), (9, .pure), (10, .pure), (11, .pure), (12, .pure), (13, .pure), (14, .quiet), (15, .pure), (16, .pure), (17, .pure), (18, .quiet), (19, .quiet), (20, .pure), (21, .pure)] (by kernel_rfl) (by kernel_rfl)
            (fun w' => Sat B w0 w' (blk b (.cells #[.int .i64 n, .slice (some ⟨g, 0, none⟩) L.length c] 107) • arr 99 19 (.slice (some ⟨g, 0, none⟩) L.length c) L.length (L.flatMap Fct.enc) • blk xb (.cells AE 63) • blk (xb + 1) (.cells #[.int .i64 0, .int .i64 0, .bool false] 46) • F)) hD ?_
          iterate 3 (refine ord_pure rfl rfl rfl (fun K' hK => ?_); go_big_quiet_op; refine hK _ ?_; clear hK K')
          refine ord_load (t := 100) rfl rfl rfl (p := .pointer (some ⟨b, 1, none⟩)) (v := .slice (some ⟨g, 0, none⟩) L.length c) rfl (fun w' hC => load_one Tryd.underlying100 rfl (cell_heap hC.heap rfl)) (fun K' hK => ?_)
          go_simp
          refine hK _ ?_
          clear hK K'
          iterate 3 (refine ord_pure rfl rfl rfl (fun K' hK => ?_); go_big_quiet_op; refine hK _ ?_; clear hK K')
          refine ord_load (t := 9) rfl rfl rfl (p := .pointer (some ⟨g, k * 19, none⟩)) (v := .string xn) rfl (fun w' hC => load_one Tryd.underlying9 rfl (HLN.out _ hC).2) (fun K' hK => ?_)
          go_simp
          refine hK _ ?_
          clear hK K'
          iterate 6 (refine ord_pure rfl rfl rfl (fun K' hK => ?_); go_big_quiet_op; refine hK _ ?_; clear hK K')
          refine ord_load (t := 100) rfl rfl rfl (p := .pointer (some ⟨b, 1, none⟩)) (v := .slice (some ⟨g, 0, none⟩) L.length c) rfl (fun w' hC => load_one Tryd.underlying100 rfl (cell_heap hC.heap rfl)) (fun K' hK => ?_)
          go_simp
          refine hK _ ?_
          clear hK K'
          iterate 3 (refine ord_pure rfl rfl rfl (fun K' hK => ?_); go_big_quiet_op; refine hK _ ?_; clear hK K')
          refine ord_load (t := 63) rfl rfl rfl (p := .pointer (some ⟨g, k * 19 + 1, none⟩)) (v := .agg XE) rfl (fun w' hC => (HLN.out _ hC).1) (fun K' hK => ?_)
          go_simp
          refine hK _ ?_
          clear hK K'
          refine ord_load (t := 63) rfl rfl rfl (p := .pointer (some ⟨xb, 0, none⟩)) (v := .agg AE) rfl (fun w' hC => HLA.out _ hC.pull3.heap) (fun K' hK => ?_)
          go_simp
          refine hK _ ?_
          clear hK K'
          refine ord_eql rfl rfl rfl rfl rfl (by kernel_rfl) (fun w' => HE.out w') (fun K' hK => ?_)
          go_simp
          refine hK _ ?_
          clear hK K'
          iterate 1 (refine ord_pure rfl rfl rfl (fun K' hK => ?_); go_big_quiet_op; refine hK _ ?_; clear hK K')
          refine ord_nil ?_
          go_wp2_with (refine wpList_append_run rfl _ _ _ rfl rfl rfl hr1 (stop_ ?_))
          unfold Stop
          go_wp2_with (refine wpList_store_run (t := 100) rfl rfl rfl rfl hr2 (stop_ ?_))
          unfold Stop
          go_wp2_with fail
          try go_frame
          refine wp_region_ord [(0, .pure), (1, .pure), (2, .pure), (3, .quiet), (4, .pure), (5, .pure), (6, .pure), (7, .pure), (8, .quiet), (9, .pure), (10, .pure), (11, .pure), (12, .quiet), (13, .pure), (14, .pure), (15, .pure), (16, .pure), (17, .seals)] (by kernel_rfl) (by kernel_rfl)
            (fun w' => w'.cell? ⟨b, 1, none⟩ = some (.slice (some ⟨g2, 0, none⟩) L.length cap) ∧ w'.cell? ⟨g2, k * 19 + 18, none⟩ = some (.int .u64 xd)) ⟨d3, d4⟩ ?_
          iterate 3 (refine ord_pure rfl rfl rfl (fun K' hK => ?_); go_big_quiet_op; refine hK _ ?_; clear hK K')
          refine ord_load (t := 100) rfl rfl rfl (p := .pointer (some ⟨b, 1, none⟩)) (v := .slice (some ⟨g2, 0, none⟩) L.length cap) rfl (fun w' hC => load_one Tryd.underlying100 rfl hC.1) (fun K' hK => ?_)
          go_simp
          refine hK _ ?_
          clear hK K'
          iterate 4 (refine ord_pure rfl rfl rfl (fun K' hK => ?_); go_big_quiet_op; refine hK _ ?_; clear hK K')
          refine ord_load (t := 100) rfl rfl rfl (p := .pointer (some ⟨b, 1, none⟩)) (v := .slice (some ⟨g2, 0, none⟩) L.length cap) rfl (fun w' hC => load_one Tryd.underlying100 rfl hC.1) (fun K' hK => ?_)
          go_simp
          refine hK _ ?_
          clear hK K'
          iterate 3 (refine ord_pure rfl rfl rfl (fun K' hK => ?_); go_big_quiet_op; refine hK _ ?_; clear hK K')
          refine ord_load (t := 23) rfl rfl rfl (p := .pointer (some ⟨g2, k * 19 + 18, none⟩)) (v := .int .u64 xd) rfl (fun w' hC => load_one Tryd.underlying23 rfl hC.2) (fun K' hK => ?_)
          go_simp
          refine hK _ ?_
          clear hK K'
          iterate 4 (refine ord_pure rfl rfl rfl (fun K' hK => ?_); go_big_quiet_op; refine hK _ ?_; clear hK K')
          refine ord_store rfl rfl rfl rfl (p := .pointer (some ⟨g2, k * 19 + 18, none⟩)) (v := .int .u64 (max xd u)) rfl rfl hr3 (fun _ => True) trivial ?_
          refine ord_nil ?_
          go_wp2_with (refine wpList_store_run (t := 46) rfl rfl rfl rfl hst ?_)
          refine ret_cell rfl rfl hld rfl ?_
          rw [HR.out.1, HR.out.2]
          exact ⟨rfl, HS9.out⟩
    · obtain rfl : k = L.length := by omega
      have hltz : ¬ (L.length : Int) < L.length := by omega
      have hany : L.any (isKL ⟨name, a⟩) = false := by
        rw [List.any_eq_false]
        intro x hx
        obtain ⟨i, hi⟩ := List.mem_iff_getElem?.1 hx
        have := HK.out i x (List.getElem?_eq_some_iff.1 hi).1 hi
        simp [this]
      have d0 : wr.cell? ⟨b, 0, none⟩ = some (.int .i64 n) := cell_heap hS.heap rfl
      have hD := hS.drew
      clear HK
      by_cases hf : roomOf n ≤ L.length
      · have hr : lrnLC (roomOf n) L ⟨name, a⟩ = 18 ∧ lrnL (roomOf n) L ⟨name, a⟩ u = L := by unfold lrnLC lrnL; rw [hany]; simp [hf]
        have HR := Lib.hid hr
        have hf1 : decide (roomOf n ≤ L.length) = true := decide_eq_true hf
        clear hr hany hf hS
        go_wp2_with fail
        try go_frame
        refine wp_region_ord [(0, .pure), (1, .pure), (2, .pure), (3, .quiet), (4, .pure), (5, .pure), (6, .pure), (7, .pure), (8, .quiet), (9, .acts), (10, .pure)] (by kernel_rfl) (by kernel_rfl)
          (fun w' => ∀ p, w'.cell? p = wr.cell? p) (fun _ => rfl) ?_
        iterate 3 (refine ord_pure rfl rfl rfl (fun K' hK => ?_); go_big_quiet_op; refine hK _ ?_; clear hK K')
        refine ord_load (t := 100) rfl rfl rfl (p := .pointer (some ⟨b, 1, none⟩)) (v := .slice A L.length c) rfl (fun w' hC => load_one Tryd.underlying100 rfl (by rw [hC]; exact d1)) (fun K' hK => ?_)
        go_simp
        refine hK _ ?_
        clear hK K'
        iterate 4 (refine ord_pure rfl rfl rfl (fun K' hK => ?_); go_big_quiet_op; refine hK _ ?_; clear hK K')
        refine ord_load (t := 3) rfl rfl rfl (p := .pointer (some ⟨b, 0, none⟩)) (v := .int .i64 n) rfl (fun w' hC => load_one Tryd.underlying3 rfl (by rw [hC]; exact d0)) (fun K' hK => ?_)
        go_simp
        refine hK _ ?_
        clear hK K'
        refine ord_acts rfl rfl (fun K' hK => ?_)
        go_simp
        refine (held_any n _).mono ?_
        rintro e w2 ⟨rfl, rfl⟩
        refine hK _ _ (fun _ => rfl) ?_
        clear hK K'
        go_simp
        iterate 1 (refine ord_pure rfl rfl rfl (fun K' hK => ?_); go_big_quiet_op; refine hK _ ?_; clear hK K')
        refine ord_nil ?_
        go_wp2_with fail
        refine (bare_any 18 _).mono ?_
        rintro e w8 ⟨rfl, hb8⟩
        obtain ⟨W9, hst, hS9⟩ := fail_store (c := 18) ((hD.below_ hb8).pull4) rfl
        have hld := fail_load hS9
        have HS9 := Lib.hid hS9
        clear hS9
        go_wp2_with (refine wpList_store_run (t := 46) rfl rfl rfl rfl hst ?_)
        refine ret_cell rfl rfl hld rfl ?_
        rw [HR.out.1, HR.out.2]
        exact ⟨rfl, Sat.fref_shut (HS9.out.drop.pull3.drop)⟩
      · have hr : lrnLC (roomOf n) L ⟨name, a⟩ = 0 ∧ lrnL (roomOf n) L ⟨name, a⟩ u = L ++ [⟨⟨name, a⟩, u⟩] := by unfold lrnLC lrnL; rw [hany]; simp [hf]
        have HR := Lib.hid hr
        have hf1 : decide (roomOf n ≤ L.length) = false := decide_eq_false hf
        have HFO : Hid ((∀ v ∈ Fct.enc ⟨⟨name, a⟩, u⟩, v.oneCell' = true) ∧ (Fct.enc ⟨⟨name, a⟩, u⟩).length = 19) := Lib.hid ⟨Fct.enc_one _, Fct.enc_length _⟩
        have HFM : Hid ((L ++ [(⟨⟨name, a⟩, u⟩ : Fct)]).length = L.length + 1 ∧ (L ++ [(⟨⟨name, a⟩, u⟩ : Fct)]).flatMap Fct.enc = L.flatMap Fct.enc ++ Fct.enc ⟨⟨name, a⟩, u⟩) := Lib.hid ⟨by simp, by rw [List.flatMap_append, List.flatMap_singleton]⟩
        obtain ⟨z, hz1, hz2, hz3⟩ := fct_zero
        clear hr hany hf hS
        generalize L ++ [⟨⟨name, a⟩, u⟩] = L2 at *
        generalize Fct.enc ⟨⟨name, a⟩, u⟩ = FE at *
        go_wp2_with fail
        try go_frame
        refine wp_region_ord [(0, .pure), (1, .pure), (2, .pure), (3, .quiet), (4, .pure), (5, .pure), (6, .pure), (7, .pure), (8, .quiet), (9, .acts), (10, .pure)] (by kernel_rfl) (by kernel_rfl)
          (fun w' => ∀ p, w'.cell? p = wr.cell? p) (fun _ => rfl) ?_
        iterate 3 (refine ord_pure rfl rfl rfl (fun K' hK => ?_); go_big_quiet_op; refine hK _ ?_; clear hK K')
        refine ord_load (t := 100) rfl rfl rfl (p := .pointer (some ⟨b, 1, none⟩)) (v := .slice A L.length c) rfl (fun w' hC => load_one Tryd.underlying100 rfl (by rw [hC]; exact d1)) (fun K' hK => ?_)
        go_simp
        refine hK _ ?_
        clear hK K'
        iterate 4 (refine ord_pure rfl rfl rfl (fun K' hK => ?_); go_big_quiet_op; refine hK _ ?_; clear hK K')
        refine ord_load (t := 3) rfl rfl rfl (p := .pointer (some ⟨b, 0, none⟩)) (v := .int .i64 n) rfl (fun w' hC => load_one Tryd.underlying3 rfl (by rw [hC]; exact d0)) (fun K' hK => ?_)
        go_simp
        refine hK _ ?_
        clear hK K'
        refine ord_acts rfl rfl (fun K' hK => ?_)
        go_simp
        refine (held_any n _).mono ?_
        rintro e w2 ⟨rfl, rfl⟩
        refine hK _ _ (fun _ => rfl) ?_
        clear hK K'
        go_simp
        iterate 1 (refine ord_pure rfl rfl rfl (fun K' hK => ?_); go_big_quiet_op; refine hK _ ?_; clear hK K')
        refine ord_nil ?_
        generalize wr.drew = wd at *
        have hC0 : wd.drew.cell? ⟨b, 1, none⟩ = some (.slice A L.length c) ∧ wd.drew.heap[xb]? = some (.cells AE 63) := ⟨cell_heap hD.heap rfl, hD.pull3.heap⟩
        have hDD := hD.drew
        clear hD d0 d1
        go_wp2_with fail
        try go_frame
        refine wp_region_tree (.two [(0, .pure), (1, .pure), (2, .pure), (3, .pure), (4, .quiet), (6, .pure), (7, .quiet), (8, .pure), (9, .pure)] 5 (.leaf [(10, .acts), (11, .seals), (12, .pure), (13, .pure), (14, .seals)]) 10 (.leaf [(5, .acts), (11, .seals), (12, .pure), (13, .pure), (14, .seals)])) [11, 14] (by kernel_rfl) (by kernel_rfl) (fun w' => w'.cell? ⟨b, 1, none⟩ = some (.slice A L.length c) ∧ w'.heap[xb]? = some (.cells AE 63)) hC0 ?_
        generalize wd.drew = W0 at *
        refine tree_two ?_
        iterate 4 (refine ord_pure rfl rfl rfl (fun K' hK => ?_); go_big_quiet_op; refine hK _ ?_; clear hK K')
        refine ord_load (t := 100) rfl rfl rfl (p := .pointer (some ⟨b, 1, none⟩)) (v := .slice A L.length c) rfl (fun w' hC => load_one Tryd.underlying100 rfl hC.1) (fun K' hK => ?_)
        go_simp
        refine hK _ ?_
        clear hK K'
        iterate 1 (refine ord_pure rfl rfl rfl (fun K' hK => ?_); go_big_quiet_op; refine hK _ ?_; clear hK K')
        refine ord_load (t := 63) rfl rfl rfl (p := .pointer (some ⟨xb, 0, none⟩)) (v := .agg AE) rfl (fun w' hC => HLA.out _ hC.2) (fun K' hK => ?_)
        go_simp
        refine hK _ ?_
        clear hK K'
        iterate 1 (refine ord_pure rfl rfl rfl (fun K' hK => ?_); go_big_quiet_op; refine hK _ ?_; clear hK K')
        refine ord_run (v := .agg FE.toArray) rfl rfl (exec_build3 rfl (u := .string name) (v := .agg AE) (s := .int .u64 u) rfl rfl rfl HFB.out) (fun K' hK => ?_)
        go_simp
        refine hK _ ?_
        clear hK K'
        refine ord_nil ?_
        refine ⟨?_, ?_⟩
        · obtain ⟨v5, W5, hr5, hS5⟩ := (arr_nil (e := 99) (sz := 19) hDD).append (m := L.length) (news := L.flatMap Fct.enc) (t := 100) (ty := 100) (P := Tryd.prog) (x := .slice A L.length c) Tryd.underlying100 hz1 hz3 (by decide) hDD.pull2.arr_reads (flat_fct L) (flat_fct_one L) (by unfold maxLen; omega) (by omega)
          rw [Nat.zero_add, List.nil_append] at hS5
          obtain ⟨A5, c5, rfl⟩ := hS5.arr_form
          have hC5 : W5.cell? ⟨b, 1, none⟩ = some (.slice A L.length c) ∧ W5.heap[xb]? = some (.cells AE 63) := ⟨cell_heap hS5.pull2.heap rfl, hS5.pull4.heap⟩
          refine fork_act rfl rfl (fun K' hK => wp_append_run _ _ _ rfl rfl rfl hr5 (hK _ _ hC5 ?_))
          clear hK K' hC5
          go_simp
          refine tree_leaf ?_
          have hS6 := hS5.alloc_ (.cells FE.toArray 99)
          have hC6 : (W5.alloc (.cells FE.toArray 99)).cell? ⟨b, 1, none⟩ = some (.slice A L.length c) ∧ (W5.alloc (.cells FE.toArray 99)).heap[xb]? = some (.cells AE 63) := ⟨cell_heap hS6.pull2.heap rfl, hS6.pull4.heap⟩
          obtain ⟨v9, W9, hr9, hA9⟩ := hS6.append (sz := 19) (m := 1) (news := FE) (t := 100) (ty := 100) (P := Tryd.prog) (x := .slice (some ⟨W5.heap.size, 0, none⟩) 1 1) Tryd.underlying100 hz1 hz3 (by decide) reads_new (by rw [HFO.out.2]) HFO.out.1 (by unfold maxLen; omega) (by omega)
          obtain ⟨A9, c9, rfl⟩ := hA9.arr_form
          refine ord_acts rfl rfl (fun K' hK => wp_buildSlice_one (v := .agg FE.toArray) (sz := 19) rfl rfl Tryd.underlying100 hz2 (by simp [Value.cells, HFO.out.2]) (by decide) (by decide) (hK _ _ hC6 ?_))
          clear hK K' hC6
          go_simp
          refine ord_seals rfl rfl (fun K' hK => wp_append_run _ _ _ rfl rfl rfl hr9 (hK (fun _ => True) _ _ trivial ?_))
          clear hK K'
          go_simp
          iterate 2 (refine ord_pure rfl rfl rfl (fun K' hK => ?_); go_big_quiet_op; refine hK _ ?_; clear hK K')
          obtain ⟨W10, hr10, hA10⟩ := one_store (o := 1) (ty := 100) (u := .slice A9 (L.length + 1) c9) hA9.pull2 (by kernel_rfl) (by simp) rfl rfl
          have hE := hA10.to (by ac_rfl : _ = arr 99 19 (.slice A L.length c) L.length (L.flatMap Fct.enc) • blk xb (.cells AE 63) • blk b (.cells (#[Value.int .i64 n, .slice A L.length c].setIfInBounds 1 (.slice A9 (L.length + 1) c9)) 107) • arr 99 19 (.slice A9 (L.length + 1) c9) (L.length + 1) (L.flatMap Fct.enc ++ FE) • blk (xb + 1) (.cells #[.int .i64 0, .int .i64 0, .bool false] 46) • F)
          have hE2 := Sat.fref_shut (n := n) (L := L2) (v := .slice A9 (L.length + 1) c9) (by rw [HFM.out.1, HFM.out.2]; exact hE.drop.drop)
          obtain ⟨W30, hst, hS9⟩ := fail_store (c := 0) hE2.pull2 rfl
          have hld := fail_load hS9
          have HS9 := Lib.hid hS9.drop
          clear hS9 hE2 hE hA10 hA9 hS6 hS5 hDD
          refine ord_store rfl rfl rfl rfl (p := .pointer (some ⟨b, 1, none⟩)) (v := .slice A9 (L.length + 1) c9) rfl rfl hr10 (fun _ => True) trivial ?_
          go_simp
          refine ord_nil ?_
          go_wp2_with (refine wpList_store_run (t := 46) rfl rfl rfl rfl hst ?_)
          refine ret_cell rfl rfl hld rfl ?_
          rw [HR.out.1, HR.out.2]
          exact ⟨rfl, HS9.out⟩
        · have hS6 := Sat.arr_shut (n := 1) (cap := 1) (sz := 19) (xs := FE) (by decide) (by decide) (by simp [Value.cells, HFO.out.2]) (by rw [Nat.one_mul]; exact List.take_of_length_le (Nat.le_of_eq HFO.out.2)) (hDD.alloc (.cells (Value.agg FE.toArray).cells 99))
          have hC6 : (W0.alloc (.cells (Value.agg FE.toArray).cells 99)).cell? ⟨b, 1, none⟩ = some (.slice A L.length c) ∧ (W0.alloc (.cells (Value.agg FE.toArray).cells 99)).heap[xb]? = some (.cells AE 63) := ⟨cell_heap hS6.pull2.heap rfl, hS6.pull4.heap⟩
          refine fork_act rfl rfl (fun K' hK => wp_buildSlice_one (v := .agg FE.toArray) (sz := 19) rfl rfl Tryd.underlying100 hz2 (by simp [Value.cells, HFO.out.2]) (by decide) (by decide) (hK _ _ hC6 ?_))
          clear hK K' hC6
          generalize W0.heap.size = g8 at *
          generalize hV8 : W0.alloc (.cells (Value.agg FE.toArray).cells 99) = V8 at *
          obtain ⟨v5, W5, hr5, hS5⟩ := (arr_nil (e := 99) (sz := 19) hS6).append (m := L.length) (news := L.flatMap Fct.enc) (t := 100) (ty := 100) (P := Tryd.prog) (x := .slice A L.length c) Tryd.underlying100 hz1 hz3 (by decide) hS6.pull3.arr_reads (flat_fct L) (flat_fct_one L) (by unfold maxLen; omega) (by omega)
          rw [Nat.zero_add, List.nil_append] at hS5
          obtain ⟨A5, c5, rfl⟩ := hS5.arr_form
          have hC5 : W5.cell? ⟨b, 1, none⟩ = some (.slice A L.length c) ∧ W5.heap[xb]? = some (.cells AE 63) := ⟨cell_heap hS5.pull3.heap rfl, (hS5.to (by ac_rfl : _ = blk xb (.cells AE 63) • arr 99 19 (.slice A5 L.length c5) L.length (L.flatMap Fct.enc) • arr 99 19 (.slice (some ⟨g8, 0, none⟩) 1 1) 1 FE • blk b (.cells #[.int .i64 n, .slice A L.length c] 107) • arr 99 19 (.slice A L.length c) L.length (L.flatMap Fct.enc) • blk (xb + 1) (.cells #[.int .i64 0, .int .i64 0, .bool false] 46) • F)).heap⟩
          obtain ⟨v9, W9, hr9, hA9⟩ := hS5.append (sz := 19) (m := 1) (news := FE) (t := 100) (ty := 100) (P := Tryd.prog) (x := .slice (some ⟨g8, 0, none⟩) 1 1) Tryd.underlying100 hz1 hz3 (by decide) hS5.pull2.arr_reads (by rw [HFO.out.2]) HFO.out.1 (by unfold maxLen; omega) (by omega)
          obtain ⟨A9, c9, rfl⟩ := hA9.arr_form
          clear hV8
          go_simp
          refine tree_leaf ?_
          refine ord_acts rfl rfl (fun K' hK => wp_append_run _ _ _ rfl rfl rfl hr5 (hK _ _ hC5 ?_))
          clear hK K' hC5
          go_simp
          refine ord_seals rfl rfl (fun K' hK => wp_append_run _ _ _ rfl rfl rfl hr9 (hK (fun _ => True) _ _ trivial ?_))
          clear hK K'
          go_simp
          iterate 2 (refine ord_pure rfl rfl rfl (fun K' hK => ?_); go_big_quiet_op; refine hK _ ?_; clear hK K')
          obtain ⟨W10, hr10, hA10⟩ := one_store (o := 1) (ty := 100) (u := .slice A9 (L.length + 1) c9) hA9.pull3 (by kernel_rfl) (by simp) rfl rfl
          have hE := hA10.to (by ac_rfl : _ = arr 99 19 (.slice A L.length c) L.length (L.flatMap Fct.enc) • blk xb (.cells AE 63) • arr 99 19 (.slice (some ⟨g8, 0, none⟩) 1 1) 1 FE • blk b (.cells (#[Value.int .i64 n, .slice A L.length c].setIfInBounds 1 (.slice A9 (L.length + 1) c9)) 107) • arr 99 19 (.slice A9 (L.length + 1) c9) (L.length + 1) (L.flatMap Fct.enc ++ FE) • blk (xb + 1) (.cells #[.int .i64 0, .int .i64 0, .bool false] 46) • F)
          have hE2 := Sat.fref_shut (n := n) (L := L2) (v := .slice A9 (L.length + 1) c9) (by rw [HFM.out.1, HFM.out.2]; exact hE.drop.drop.drop)
          obtain ⟨W30, hst, hS9⟩ := fail_store (c := 0) hE2.pull2 rfl
          have hld := fail_load hS9
          have HS9 := Lib.hid hS9.drop
          clear hS9 hE2 hE hA10 hA9 hS6 hS5 hDD
          refine ord_store rfl rfl rfl rfl (p := .pointer (some ⟨b, 1, none⟩)) (v := .slice A9 (L.length + 1) c9) rfl rfl hr10 (fun _ => True) trivial ?_
          go_simp
          refine ord_nil ?_
          go_wp2_with (refine wpList_store_run (t := 46) rfl rfl rfl rfl hst ?_)
          refine ret_cell rfl rfl hld rfl ?_
          rw [HR.out.1, HR.out.2]
          exact ⟨rfl, HS9.out⟩
end
end Go.Proofs.YtepaanpdjadakaaDoor
