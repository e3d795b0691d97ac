import Derived.Test.YtepaanpdjadakaaDoorExpA
import Derived.Test.YtepaanpdjadakaaDoorBaseQ
import Derived.Test.YtepaanpdjadakaaDoorInts
import Derived.Deep.QuietTactic
import Derived.BigQuiet
/-! ExpiryDue's walk. -/
namespace Go.Proofs.YtepaanpdjadakaaDoor
open Go Go.RowKit

theorem load_of_cell {w : World} {p : Addr} {ty : TypeId} {v : Value} {d : TypeDesc} (hu : Tryd.prog.underlying ty = some d) (hd : d.isRow = false) (h : w.cell? p = some v) : (Instr.loadAt ty (.pointer (some p))).run Tryd.prog w = .ok v w := by
  have hagg : (isAgg ty).run Tryd.prog w = .ok false w := by
    unfold isAgg
    rw [Sem.run_bind, run_underlying hu w]
    cases d <;> simp_all
  simp only [Instr.loadAt, Instr.sureAddr, Sem.run_bind, Sem.run_pure, Result.andThen_ok, loadVar, hagg]
  simp [load, Sem.run, h]
theorem cell_of_heap {w : World} {g o : Nat} {cur : Array Value} {t : TypeId} {fr : Nat × Nat} {v : Value} (h : w.heap[g]? = some (.cells cur t fr)) (hv : cur[o]? = some v) : w.cell? ⟨g, o, none⟩ = some v := by
  simp only [World.cell?, h]; exact hv
theorem wf_u64' {n : Int} (h : (Lit.int .u64 n).wf = true) : 0 ≤ n ∧ n ≤ 18446744073709551615 := by
  simp [Lit.wf, IntKind.signed, IntKind.bits, IntKind.min, IntKind.max] at h
  omega
attribute [local irreducible] wpOrd
theorem pair_at {D : List Ent} (h : D.Pairwise (fun a b => a.lt b = true)) {i : Nat} (hi : i + 1 < D.length) : (Hp.g D i).lt (Hp.g D (i + 1)) = true := by
  have e1 : D[i] = Hp.g D i := by rw [← Option.some_inj, ← g_get (by omega), List.getElem?_eq_getElem (by omega)]
  have e2 : D[i + 1] = Hp.g D (i + 1) := by rw [← Option.some_inj, ← g_get (by omega), List.getElem?_eq_getElem (by omega)]
  rw [← e1, ← e2]
  exact (List.pairwise_iff_getElem.1 h) i (i + 1) (by omega) (by omega) (by omega)
set_option maxRecDepth 8000 in
set_option maxHeartbeats 8000000 in
theorem due_any (a0 : Option Addr) (len0 cap0 : Nat) (z0 : List Int) (now : Int) (w : World) (w0 : IsRow .u64 w a0 len0 cap0 z0) (hE : Et w) :
    Calls Tryd.prog 3 #[.slice a0 len0 cap0, .int .u64 now] w fun e w' => e = .returned (.bool true) ∧ Below w.heap.size w w' := by
  have hlen := w0.len_le
  unfold maxLen at hlen
  by_cases h200 : 200 < len0
  · go_enter Tryd.func3, Tryd.ntmps3
    go_wp2_with fail
    refine (awake17_any _ hE).mono ?_
    rintro e w1 ⟨rfl, hb⟩
    go_wp2_with fail
    go_ret
    exact ⟨rfl, hb⟩
  · have h200' : (len0 : Int) ≤ 200 := by omega
    have e0 : errV 0 = .nilIface := rfl
    have c1 := qNew_any 1000 (Sat.start w)
    rw [show roomOf 1000 = 1000 by decide] at c1
    go_enter Tryd.func3, Tryd.ntmps3
    go_wp2_with fail
    refine c1.mono ?_
    rintro e w1 ⟨q, rfl, hS1⟩
    clear c1
    go_wp2_with fail
    refine (awake17_any _ (hS1.et hE.pos hE)).mono ?_
    rintro e w2 ⟨rfl, hb2⟩
    have hS2 := hS1.below_ hb2
    clear hS1 hb2
    go_wp2_with fail
    go_loopw [6, 7] (fun d i wr => ∃ k : Nat, k ≤ len0 ∧ i = .int .i64 k ∧ d = .int .i64 (cntOf z0 now k) ∧ Sat w.heap.size w wr (queue q 1000 (entsOf z0 k) • emp)) (fun _ i _ => len0 - (intOf i).toNat)
    case atStart => exact ⟨0, Nat.zero_le _, rfl, rfl, hS2⟩
    case round =>
      clear hS2
      obtain ⟨k, hk, rfl, rfl, hS⟩ := hrel
      have hcl := cnt_le z0 now k
      by_cases hlt : k < len0
      · obtain ⟨x, rfl, hxl, hxw⟩ := w0.at' hlt
        have hc := hxw _ hS.below
        have hcs := cnt_succ z0 now k
        obtain ⟨p1, p2⟩ := ents_push (room := 1000) z0 k (by omega)
        have c2 := qPush_any hS (hS.et hE.pos hE) k (z0.getD k 0)
        rw [p1, p2, e0] at c2
        clear p1 p2
        generalize hz : z0.getD k 0 = z at *
        by_cases hd : z ≤ now
        · rw [if_pos hd] at hcs
          have HC := Lib.hid hcs
          clear hcs hz
          go_wp2_with fail
          refine c2.mono ?_
          rintro e w3 ⟨rfl, hS3⟩
          have hc3 := hxw _ hS3.below
          clear c2 hS hc
          go_wp2_with fail
          go_roundw
          case rel => exact ⟨k + 1, by omega, by go_num, by rw [HC.out]; go_num, hS3⟩
          case measure => simp [intOf]; omega
        · rw [if_neg hd] at hcs
          have hd' : now < z := by omega
          have HC := Lib.hid hcs
          clear hcs hz hd
          go_wp2_with fail
          refine c2.mono ?_
          rintro e w3 ⟨rfl, hS3⟩
          have hc3 := hxw _ hS3.below
          clear c2 hS hc
          go_wp2_with fail
          go_roundw
          case rel => exact ⟨k + 1, by omega, by go_num, by rw [HC.out]; go_num, hS3⟩
          case measure => simp [intOf]; omega
      · obtain rfl : k = len0 := by omega
        obtain ⟨sp1, sp2, sp3, sp4⟩ := dueL_spec (entsOf z0 k).length (entsOf z0 k) now (Nat.le_refl _) (ents_nd z0 k)
        obtain ⟨hD, hR⟩ := dueL_count (Nat.le_refl (entsOf z0 k).length) (ents_nd z0 k) (now := now)
        have c2 := qDue_any hS now
        generalize (dueL (entsOf z0 k).length (entsOf z0 k) now).1 = D at *
        generalize (dueL (entsOf z0 k).length (entsOf z0 k) now).2 = R at *
        have hD' : D.length = cntOf z0 now k := hD
        have hRi : (R.length : Int) = (k : Int) - cntOf z0 now k := by rw [entsOf_length] at hR; rw [hR]; unfold cntOf at hcl ⊢; omega
        have hmem : ∀ x ∈ D, ∃ i : Nat, i < k ∧ x = ⟨(i : Int), z0.getD i 0⟩ := fun x hx => mem_ents.1 (sp1.mem_iff.1 (List.mem_append_left _ hx))
        have hmemR : ∀ x ∈ R, x.due ≤ 18446744073709551615 := fun x hx => by
          obtain ⟨i, hi, rfl⟩ := mem_ents.1 (sp1.mem_iff.1 (List.mem_append_right _ hx))
          obtain ⟨_, _, _, _, hwf⟩ := w0.at_ hi
          exact (wf_u64' hwf).2
        have HMR := Lib.hid hmemR
        clear hmemR
        generalize cntOf z0 now k = n1 at *
        have HD := Lib.hid hD'
        have HRi := Lib.hid hRi
        have HM := Lib.hid hmem
        have H2 := Lib.hid sp2
        have H4 := Lib.hid sp4
        clear hD hR hD' hRi hmem sp1 sp2 sp3 sp4
        go_wp2_with fail
        refine c2.mono ?_
        rintro e w3 ⟨v, rfl, hS3⟩
        rw [HD.out] at hS3
        obtain ⟨A, c, rfl⟩ := hS3.arr_form
        have c3 := qLen_any hS3.pull2
        rw [HRi.out] at c3
        clear c2 hS
        go_wp2_with fail
        refine c3.mono ?_
        rintro e w4 ⟨rfl, rfl⟩
        clear c3
        go_wp2_with fail
        go_loopw [9] (fun i wr => ∃ k2 : Nat, k2 ≤ n1 ∧ i = .int .i64 k2 ∧ Sat w.heap.size w wr (arr 34 2 (.slice A n1 c) n1 (D.flatMap Ent.enc) • queue q 1000 R • emp)) (fun i _ => n1 - (intOf i).toNat)
        case atStart => exact ⟨0, Nat.zero_le _, rfl, hS3⟩
        case round =>
          clear hS3
          obtain ⟨k2, hk2, rfl, hS⟩ := hrel
          by_cases hlt2 : k2 < n1
          · rcases hS.arr_open with ⟨_, h0, _, _⟩ | ⟨g, cap, cur, hv, r1, r2, r3, r4, hSb⟩
            · omega
            simp only [Value.slice.injEq] at hv
            obtain ⟨rfl, _, rfl⟩ := hv
            have hkl : k2 < D.length := by rw [HD.out]; exact hlt2
            have r4' : cur.toList.take (D.length * 2) = D.flatMap Ent.enc := by rw [HD.out]; exact r4
            have hle := ent_load hSb.heap r4' hkl
            obtain ⟨i, hi, hx⟩ := HM.out _ (g_mem hkl)
            have hdue := H2.out _ (g_mem hkl)
            obtain ⟨x, rfl, hxl, hxw⟩ := w0.at' (i := i) (by omega)
            have hSa := hSb.alloc_ (.cells #[.int .i64 (i : Int), .int .u64 (z0.getD i 0)] 34)
            have hS' := hS.alloc_ (.cells #[.int .i64 (i : Int), .int .u64 (z0.getD i 0)] 34)
            have d0 := hxw _ hSa.below
            have d1 : (wr.alloc (.cells #[.int .i64 (i : Int), .int .u64 (z0.getD i 0)] 34)).cell? ⟨wr.heap.size, 0, none⟩ = some (.int .i64 (i : Int)) := by rw [cell_new]; rfl
            have d2 : (wr.alloc (.cells #[.int .i64 (i : Int), .int .u64 (z0.getD i 0)] 34)).cell? ⟨wr.heap.size, 1, none⟩ = some (.int .u64 (z0.getD i 0)) := by rw [cell_new]; rfl
            rw [hx] at hle hdue
            simp only [Ent.enc] at hle
            simp only at hdue
            have b1 : decide ((i : Int) < 0) = false := decide_eq_false (by omega)
            have b2 : decide (k ≤ i) = false := decide_eq_false (by omega)
            have b3 : decide (now < z0.getD i 0) = false := decide_eq_false (by omega)
            rcases k2 with _ | j
            · generalize z0.getD i 0 = z at *
              have HX := Lib.hid hx
              clear hx r4 r4' hkl hxw hSb hS hSa
              generalize hW : wr.alloc (.cells #[.int .i64 (i : Int), .int .u64 z] 34) = W at *
              have HW := Lib.hid hW
              clear hW
              go_wp2_with (refine wpList_load_run (t := 34) rfl rfl rfl hle ?_)
              rw [HW.out]
              try go_frame
              refine wp_region_ord [(0, .pure), (1, .quiet), (2, .pure), (3, .pure), (4, .pure), (5, .quiet), (6, .pure), (7, .pure), (8, .pure), (9, .pure), (10, .pure), (11, .pure), (12, .quiet), (13, .pure), (14, .pure), (15, .quiet), (16, .pure), (17, .quiet), (18, .pure), (19, .pure), (20, .pure), (21, .pure), (22, .quiet), (23, .pure), (24, .pure), (25, .pure), (26, .pure), (27, .pure), (28, .pure), (29, .pure), (30, .pure), (31, .quiet), (32, .pure), (33, .pure), (34, .pure), (35, .pure), (36, .pure), (37, .quiet), (38, .pure), (39, .pure), (40, .pure), (41, .quiet), (42, .pure), (43, .pure), (44, .pure), (45, .pure), (46, .pure), (47, .quiet), (48, .pure), (49, .pure), (50, .pure), (51, .quiet), (52, .pure), (53, .pure), (54, .pure), (55, .pure), (56, .pure), (57, .quiet), (58, .pure), (59, .pure), (60, .pure), (61, .pure), (62, .pure)] (by kernel_rfl) (by kernel_rfl)
                (fun w' => ∀ p, w'.cell? p = W.cell? p) (fun _ => rfl) ?_
              iterate 1 (refine ord_pure rfl rfl rfl (fun K' hK => ?_); go_big_quiet_op; refine hK _ ?_; clear hK K')
              refine ord_load (t := 3) rfl rfl rfl (p := .pointer (some ⟨wr.heap.size, 0, none⟩)) (v := .int .i64 (i : Int)) rfl (fun w' hC => load_of_cell Tryd.underlying3 rfl (by rw [hC]; exact d1)) (fun K' hK => ?_)
              go_simp
              refine hK _ ?_
              clear hK K'
              iterate 3 (refine ord_pure rfl rfl rfl (fun K' hK => ?_); go_big_quiet_op; refine hK _ ?_; clear hK K')
              refine ord_load (t := 3) rfl rfl rfl (p := .pointer (some ⟨wr.heap.size, 0, none⟩)) (v := .int .i64 (i : Int)) rfl (fun w' hC => load_of_cell Tryd.underlying3 rfl (by rw [hC]; exact d1)) (fun K' hK => ?_)
              go_simp
              refine hK _ ?_
              clear hK K'
              iterate 6 (refine ord_pure rfl rfl rfl (fun K' hK => ?_); go_big_quiet_op; refine hK _ ?_; clear hK K')
              refine ord_load (t := 23) rfl rfl rfl (p := .pointer (some ⟨wr.heap.size, 1, none⟩)) (v := .int .u64 z) rfl (fun w' hC => load_of_cell Tryd.underlying23 rfl (by rw [hC]; exact d2)) (fun K' hK => ?_)
              go_simp
              refine hK _ ?_
              clear hK K'
              iterate 2 (refine ord_pure rfl rfl rfl (fun K' hK => ?_); go_big_quiet_op; refine hK _ ?_; clear hK K')
              refine ord_load (t := 3) rfl rfl rfl (p := .pointer (some ⟨wr.heap.size, 0, none⟩)) (v := .int .i64 (i : Int)) rfl (fun w' hC => load_of_cell Tryd.underlying3 rfl (by rw [hC]; exact d1)) (fun K' hK => ?_)
              go_simp
              refine hK _ ?_
              clear hK K'
              iterate 1 (refine ord_pure rfl rfl rfl (fun K' hK => ?_); go_big_quiet_op; refine hK _ ?_; clear hK K')
              refine ord_load (t := 23) rfl rfl rfl (p := .pointer (some (x.add i))) (v := .int .u64 z) rfl (fun w' hC => load_of_cell Tryd.underlying23 rfl (by rw [hC]; exact d0)) (fun K' hK => ?_)
              go_simp
              refine hK _ ?_
              clear hK K'
              iterate 4 (refine ord_pure rfl rfl rfl (fun K' hK => ?_); go_big_quiet_op; refine hK _ ?_; clear hK K')
              refine ord_load (t := 23) rfl rfl rfl (p := .pointer (some ⟨wr.heap.size, 1, none⟩)) (v := .int .u64 z) rfl (fun w' hC => load_of_cell Tryd.underlying23 rfl (by rw [hC]; exact d2)) (fun K' hK => ?_)
              go_simp
              refine hK _ ?_
              clear hK K'
              iterate 7 (refine ord_pure rfl rfl rfl (fun K' hK => ?_); go_big_quiet_op; refine hK _ ?_; clear hK K')
              iterate 31 (refine ord_skip' rfl rfl (fun K' hK => ?_); go_simp; refine hK _ ?_; clear hK K')
              iterate 2 (refine ord_pure rfl rfl rfl (fun K' hK => ?_); go_big_quiet_op; refine hK _ ?_; clear hK K')
              refine ord_nil ?_
              go_wp2_with fail
              go_roundw
              case rel => exact ⟨0 + 1, by omega, by go_num, hS'.drew⟩
              case measure => simp [intOf]; omega
            · have hlt4 := pair_at H4.out (i := j) (by omega)
              have hjl : j < D.length := by omega
              obtain ⟨iy, hiy, hy⟩ := HM.out _ (g_mem hjl)
              have dy := cur_at Ent.enc_length r4' (g_get hjl) 1 _ rfl
              have dy0 := cur_at Ent.enc_length r4' (g_get hjl) 0 _ rfl
              rw [hy] at dy dy0
              rw [hx, hy, Ent.lt_iff] at hlt4
              simp only at hlt4 dy dy0
              have d3 : (wr.alloc (.cells #[.int .i64 (i : Int), .int .u64 (z0.getD i 0)] 34)).cell? ⟨g, j * 2 + 1, none⟩ = some (.int .u64 (z0.getD iy 0)) := cell_of_heap hSa.heap dy
              have d4 : (wr.alloc (.cells #[.int .i64 (i : Int), .int .u64 (z0.getD i 0)] 34)).cell? ⟨g, j * 2, none⟩ = some (.int .i64 iy) := cell_of_heap hSa.heap dy0
              generalize z0.getD i 0 = z at *
              generalize z0.getD iy 0 = zy at *
              have HX := Lib.hid hx
              clear hx hy r4 r4' hkl hxw hSb hS hSa dy dy0 hjl hiy
              generalize hW : wr.alloc (.cells #[.int .i64 (i : Int), .int .u64 z] 34) = W at *
              have HW := Lib.hid hW
              clear hW
              have b4 : decide ((0 : Int) < (j : Int) + 1) = true := decide_eq_true (by omega)
              rcases hlt4 with h5 | ⟨h9, h5⟩
              · have h6 : (z == zy) = false := by rw [beq_eq_false_iff_ne]; omega
                have h7 : decide (z < zy) = false := decide_eq_false (by omega)
                go_wp2_with (refine wpList_load_run (t := 34) rfl rfl rfl hle ?_)
                rw [HW.out]
                try go_frame
                refine wp_region_ord [(0, .pure), (1, .quiet), (2, .pure), (3, .pure), (4, .pure), (5, .quiet), (6, .pure), (7, .pure), (8, .pure), (9, .pure), (10, .pure), (11, .pure), (12, .quiet), (13, .pure), (14, .pure), (15, .quiet), (16, .pure), (17, .quiet), (18, .pure), (19, .pure), (20, .pure), (21, .pure), (22, .quiet), (23, .pure), (24, .pure), (25, .pure), (26, .pure), (27, .pure), (28, .pure), (29, .pure), (30, .pure), (31, .quiet), (32, .pure), (33, .pure), (34, .pure), (35, .pure), (36, .pure), (37, .quiet), (38, .pure), (39, .pure), (40, .pure), (41, .quiet), (42, .pure), (43, .pure), (44, .pure), (45, .pure), (46, .pure), (47, .quiet), (48, .pure), (49, .pure), (50, .pure), (51, .quiet), (52, .pure), (53, .pure), (54, .pure), (55, .pure), (56, .pure), (57, .quiet), (58, .pure), (59, .pure), (60, .pure), (61, .pure), (62, .pure)] (by kernel_rfl) (by kernel_rfl)
                  (fun w' => ∀ p, w'.cell? p = W.cell? p) (fun _ => rfl) ?_
                iterate 1 (refine ord_pure rfl rfl rfl (fun K' hK => ?_); go_big_quiet_op; refine hK _ ?_; clear hK K')
                refine ord_load (t := 3) rfl rfl rfl (p := .pointer (some ⟨wr.heap.size, 0, none⟩)) (v := .int .i64 (i : Int)) rfl (fun w' hC => load_of_cell Tryd.underlying3 rfl (by rw [hC]; exact d1)) (fun K' hK => ?_)
                go_simp
                refine hK _ ?_
                clear hK K'
                iterate 3 (refine ord_pure rfl rfl rfl (fun K' hK => ?_); go_big_quiet_op; refine hK _ ?_; clear hK K')
                refine ord_load (t := 3) rfl rfl rfl (p := .pointer (some ⟨wr.heap.size, 0, none⟩)) (v := .int .i64 (i : Int)) rfl (fun w' hC => load_of_cell Tryd.underlying3 rfl (by rw [hC]; exact d1)) (fun K' hK => ?_)
                go_simp
                refine hK _ ?_
                clear hK K'
                iterate 6 (refine ord_pure rfl rfl rfl (fun K' hK => ?_); go_big_quiet_op; refine hK _ ?_; clear hK K')
                refine ord_load (t := 23) rfl rfl rfl (p := .pointer (some ⟨wr.heap.size, 1, none⟩)) (v := .int .u64 z) rfl (fun w' hC => load_of_cell Tryd.underlying23 rfl (by rw [hC]; exact d2)) (fun K' hK => ?_)
                go_simp
                refine hK _ ?_
                clear hK K'
                iterate 2 (refine ord_pure rfl rfl rfl (fun K' hK => ?_); go_big_quiet_op; refine hK _ ?_; clear hK K')
                refine ord_load (t := 3) rfl rfl rfl (p := .pointer (some ⟨wr.heap.size, 0, none⟩)) (v := .int .i64 (i : Int)) rfl (fun w' hC => load_of_cell Tryd.underlying3 rfl (by rw [hC]; exact d1)) (fun K' hK => ?_)
                go_simp
                refine hK _ ?_
                clear hK K'
                iterate 1 (refine ord_pure rfl rfl rfl (fun K' hK => ?_); go_big_quiet_op; refine hK _ ?_; clear hK K')
                refine ord_load (t := 23) rfl rfl rfl (p := .pointer (some (x.add i))) (v := .int .u64 z) rfl (fun w' hC => load_of_cell Tryd.underlying23 rfl (by rw [hC]; exact d0)) (fun K' hK => ?_)
                go_simp
                refine hK _ ?_
                clear hK K'
                iterate 4 (refine ord_pure rfl rfl rfl (fun K' hK => ?_); go_big_quiet_op; refine hK _ ?_; clear hK K')
                refine ord_load (t := 23) rfl rfl rfl (p := .pointer (some ⟨wr.heap.size, 1, none⟩)) (v := .int .u64 z) rfl (fun w' hC => load_of_cell Tryd.underlying23 rfl (by rw [hC]; exact d2)) (fun K' hK => ?_)
                go_simp
                refine hK _ ?_
                clear hK K'
                iterate 8 (refine ord_pure rfl rfl rfl (fun K' hK => ?_); go_big_quiet_op; refine hK _ ?_; clear hK K')
                refine ord_load (t := 23) rfl rfl rfl (p := .pointer (some ⟨wr.heap.size, 1, none⟩)) (v := .int .u64 z) rfl (fun w' hC => load_of_cell Tryd.underlying23 rfl (by rw [hC]; exact d2)) (fun K' hK => ?_)
                go_simp
                refine hK _ ?_
                clear hK K'
                iterate 5 (refine ord_pure rfl rfl rfl (fun K' hK => ?_); go_big_quiet_op; refine hK _ ?_; clear hK K')
                refine ord_load (t := 23) rfl rfl rfl (p := .pointer (some ⟨g, j * 2 + 1, none⟩)) (v := .int .u64 zy) rfl (fun w' hC => load_of_cell Tryd.underlying23 rfl (by rw [hC]; exact d3)) (fun K' hK => ?_)
                go_simp
                refine hK _ ?_
                clear hK K'
                iterate 3 (refine ord_pure rfl rfl rfl (fun K' hK => ?_); go_big_quiet_op; refine hK _ ?_; clear hK K')
                refine ord_load (t := 23) rfl rfl rfl (p := .pointer (some ⟨wr.heap.size, 1, none⟩)) (v := .int .u64 z) rfl (fun w' hC => load_of_cell Tryd.underlying23 rfl (by rw [hC]; exact d2)) (fun K' hK => ?_)
                go_simp
                refine hK _ ?_
                clear hK K'
                iterate 5 (refine ord_pure rfl rfl rfl (fun K' hK => ?_); go_big_quiet_op; refine hK _ ?_; clear hK K')
                refine ord_load (t := 23) rfl rfl rfl (p := .pointer (some ⟨g, j * 2 + 1, none⟩)) (v := .int .u64 zy) rfl (fun w' hC => load_of_cell Tryd.underlying23 rfl (by rw [hC]; exact d3)) (fun K' hK => ?_)
                go_simp
                refine hK _ ?_
                clear hK K'
                iterate 2 (refine ord_pure rfl rfl rfl (fun K' hK => ?_); go_big_quiet_op; refine hK _ ?_; clear hK K')
                iterate 9 (refine ord_skip' rfl rfl (fun K' hK => ?_); go_simp; refine hK _ ?_; clear hK K')
                iterate 4 (refine ord_pure rfl rfl rfl (fun K' hK => ?_); go_big_quiet_op; refine hK _ ?_; clear hK K')
                refine ord_nil ?_
                go_wp2_with fail
                go_roundw
                case rel => exact ⟨j + 1 + 1, by omega, by go_num, hS'.drew⟩
                case measure => simp [intOf]; omega
              · have h10 : z = zy := h9.symm
                subst h10
                clear h9
                have h7 : decide (i ≤ iy) = false := decide_eq_false (by omega)
                have h8 : decide (z < z) = false := decide_eq_false (by omega)
                go_wp2_with (refine wpList_load_run (t := 34) rfl rfl rfl hle ?_)
                rw [HW.out]
                try go_frame
                refine wp_region_ord [(0, .pure), (1, .quiet), (2, .pure), (3, .pure), (4, .pure), (5, .quiet), (6, .pure), (7, .pure), (8, .pure), (9, .pure), (10, .pure), (11, .pure), (12, .quiet), (13, .pure), (14, .pure), (15, .quiet), (16, .pure), (17, .quiet), (18, .pure), (19, .pure), (20, .pure), (21, .pure), (22, .quiet), (23, .pure), (24, .pure), (25, .pure), (26, .pure), (27, .pure), (28, .pure), (29, .pure), (30, .pure), (31, .quiet), (32, .pure), (33, .pure), (34, .pure), (35, .pure), (36, .pure), (37, .quiet), (38, .pure), (39, .pure), (40, .pure), (41, .quiet), (42, .pure), (43, .pure), (44, .pure), (45, .pure), (46, .pure), (47, .quiet), (48, .pure), (49, .pure), (50, .pure), (51, .quiet), (52, .pure), (53, .pure), (54, .pure), (55, .pure), (56, .pure), (57, .quiet), (58, .pure), (59, .pure), (60, .pure), (61, .pure), (62, .pure)] (by kernel_rfl) (by kernel_rfl)
                  (fun w' => ∀ p, w'.cell? p = W.cell? p) (fun _ => rfl) ?_
                iterate 1 (refine ord_pure rfl rfl rfl (fun K' hK => ?_); go_big_quiet_op; refine hK _ ?_; clear hK K')
                refine ord_load (t := 3) rfl rfl rfl (p := .pointer (some ⟨wr.heap.size, 0, none⟩)) (v := .int .i64 (i : Int)) rfl (fun w' hC => load_of_cell Tryd.underlying3 rfl (by rw [hC]; exact d1)) (fun K' hK => ?_)
                go_simp
                refine hK _ ?_
                clear hK K'
                iterate 3 (refine ord_pure rfl rfl rfl (fun K' hK => ?_); go_big_quiet_op; refine hK _ ?_; clear hK K')
                refine ord_load (t := 3) rfl rfl rfl (p := .pointer (some ⟨wr.heap.size, 0, none⟩)) (v := .int .i64 (i : Int)) rfl (fun w' hC => load_of_cell Tryd.underlying3 rfl (by rw [hC]; exact d1)) (fun K' hK => ?_)
                go_simp
                refine hK _ ?_
                clear hK K'
                iterate 6 (refine ord_pure rfl rfl rfl (fun K' hK => ?_); go_big_quiet_op; refine hK _ ?_; clear hK K')
                refine ord_load (t := 23) rfl rfl rfl (p := .pointer (some ⟨wr.heap.size, 1, none⟩)) (v := .int .u64 z) rfl (fun w' hC => load_of_cell Tryd.underlying23 rfl (by rw [hC]; exact d2)) (fun K' hK => ?_)
                go_simp
                refine hK _ ?_
                clear hK K'
                iterate 2 (refine ord_pure rfl rfl rfl (fun K' hK => ?_); go_big_quiet_op; refine hK _ ?_; clear hK K')
                refine ord_load (t := 3) rfl rfl rfl (p := .pointer (some ⟨wr.heap.size, 0, none⟩)) (v := .int .i64 (i : Int)) rfl (fun w' hC => load_of_cell Tryd.underlying3 rfl (by rw [hC]; exact d1)) (fun K' hK => ?_)
                go_simp
                refine hK _ ?_
                clear hK K'
                iterate 1 (refine ord_pure rfl rfl rfl (fun K' hK => ?_); go_big_quiet_op; refine hK _ ?_; clear hK K')
                refine ord_load (t := 23) rfl rfl rfl (p := .pointer (some (x.add i))) (v := .int .u64 z) rfl (fun w' hC => load_of_cell Tryd.underlying23 rfl (by rw [hC]; exact d0)) (fun K' hK => ?_)
                go_simp
                refine hK _ ?_
                clear hK K'
                iterate 4 (refine ord_pure rfl rfl rfl (fun K' hK => ?_); go_big_quiet_op; refine hK _ ?_; clear hK K')
                refine ord_load (t := 23) rfl rfl rfl (p := .pointer (some ⟨wr.heap.size, 1, none⟩)) (v := .int .u64 z) rfl (fun w' hC => load_of_cell Tryd.underlying23 rfl (by rw [hC]; exact d2)) (fun K' hK => ?_)
                go_simp
                refine hK _ ?_
                clear hK K'
                iterate 8 (refine ord_pure rfl rfl rfl (fun K' hK => ?_); go_big_quiet_op; refine hK _ ?_; clear hK K')
                refine ord_load (t := 23) rfl rfl rfl (p := .pointer (some ⟨wr.heap.size, 1, none⟩)) (v := .int .u64 z) rfl (fun w' hC => load_of_cell Tryd.underlying23 rfl (by rw [hC]; exact d2)) (fun K' hK => ?_)
                go_simp
                refine hK _ ?_
                clear hK K'
                iterate 5 (refine ord_pure rfl rfl rfl (fun K' hK => ?_); go_big_quiet_op; refine hK _ ?_; clear hK K')
                refine ord_load (t := 23) rfl rfl rfl (p := .pointer (some ⟨g, j * 2 + 1, none⟩)) (v := .int .u64 z) rfl (fun w' hC => load_of_cell Tryd.underlying23 rfl (by rw [hC]; exact d3)) (fun K' hK => ?_)
                go_simp
                refine hK _ ?_
                clear hK K'
                iterate 3 (refine ord_pure rfl rfl rfl (fun K' hK => ?_); go_big_quiet_op; refine hK _ ?_; clear hK K')
                refine ord_load (t := 23) rfl rfl rfl (p := .pointer (some ⟨wr.heap.size, 1, none⟩)) (v := .int .u64 z) rfl (fun w' hC => load_of_cell Tryd.underlying23 rfl (by rw [hC]; exact d2)) (fun K' hK => ?_)
                go_simp
                refine hK _ ?_
                clear hK K'
                iterate 5 (refine ord_pure rfl rfl rfl (fun K' hK => ?_); go_big_quiet_op; refine hK _ ?_; clear hK K')
                refine ord_load (t := 23) rfl rfl rfl (p := .pointer (some ⟨g, j * 2 + 1, none⟩)) (v := .int .u64 z) rfl (fun w' hC => load_of_cell Tryd.underlying23 rfl (by rw [hC]; exact d3)) (fun K' hK => ?_)
                go_simp
                refine hK _ ?_
                clear hK K'
                iterate 3 (refine ord_pure rfl rfl rfl (fun K' hK => ?_); go_big_quiet_op; refine hK _ ?_; clear hK K')
                refine ord_load (t := 3) rfl rfl rfl (p := .pointer (some ⟨wr.heap.size, 0, none⟩)) (v := .int .i64 (i : Int)) rfl (fun w' hC => load_of_cell Tryd.underlying3 rfl (by rw [hC]; exact d1)) (fun K' hK => ?_)
                go_simp
                refine hK _ ?_
                clear hK K'
                iterate 5 (refine ord_pure rfl rfl rfl (fun K' hK => ?_); go_big_quiet_op; refine hK _ ?_; clear hK K')
                refine ord_load (t := 3) rfl rfl rfl (p := .pointer (some ⟨g, j * 2, none⟩)) (v := .int .i64 (iy : Int)) rfl (fun w' hC => load_of_cell Tryd.underlying3 rfl (by rw [hC]; exact d4)) (fun K' hK => ?_)
                go_simp
                refine hK _ ?_
                clear hK K'
                iterate 5 (refine ord_pure rfl rfl rfl (fun K' hK => ?_); go_big_quiet_op; refine hK _ ?_; clear hK K')
                refine ord_nil ?_
                go_wp2_with fail
                go_roundw
                case rel => exact ⟨j + 1 + 1, by omega, by go_num, hS'.drew⟩
                case measure => simp [intOf]; omega
          · obtain rfl : k2 = n1 := by omega
            have hRnd := hS.pull2.queue_nd
            obtain ⟨g1, g2⟩ := dueL_count (Nat.le_refl R.length) hRnd (now := 18446744073709551615)
            have g3 : R.countP (fun e => decide (e.due ≤ 18446744073709551615)) = R.length := by
              rw [List.countP_eq_length]; intro x hx; simpa using HMR.out x hx
            rw [g3] at g1 g2
            rw [Nat.sub_self] at g2
            have c4 := qDue_any hS.pull2 18446744073709551615
            generalize (dueL R.length R 18446744073709551615).1 = D2 at *
            generalize (dueL R.length R 18446744073709551615).2 = R2 at *
            have g4 : (D2.length : Int) = (k : Int) - k2 := by rw [g1]; exact HRi.out
            have G2 := Lib.hid g2
            have G4 := Lib.hid g4
            clear g1 g2 g3 g4 hRnd
            go_wp2_with fail
            refine c4.mono ?_
            rintro e w5 ⟨v2, rfl, hS5⟩
            obtain ⟨A2, c2', rfl⟩ := hS5.arr_form
            have c5 := qLen_any hS5.pull2
            rw [G2.out] at c5
            clear c4 hS
            have hq : ((D2.length : Int) == (k : Int) - k2) = true := by rw [beq_iff_eq]; exact G4.out
            go_wp2_with fail
            refine c5.mono ?_
            rintro e w6 ⟨rfl, rfl⟩
            go_wp2_with fail
            go_ret
            exact ⟨rfl, hS5.below⟩
end Go.Proofs.YtepaanpdjadakaaDoor
