import Derived.Test.YtepaanpdjadakaaDoorArr2
import Derived.Test.YtepaanpdjadakaaDoorExp8
import Derived.Test.YtepaanpdjadakaaDoorFail
import Derived.Test.YtepaanpdjadakaaDoorBaseQ
/-! The reference: Next. -/
namespace Go.Proofs.YtepaanpdjadakaaDoor
open Go Go.RowKit

attribute [local irreducible] wpOrd
section
variable {B : Nat} {w0 w w' : World} {F : HP} {b : Nat} {n : Int} {S : List Ent} {v : Value}
def BestAt (S : List Ent) (k : Nat) (v : Value) : Prop := ∃ m : Int, v = .int .i64 m ∧ BestIs S k m
theorem ent_put {x : Nat} (hS : Sat B w0 w (blk x (.cells #[.int .i64 0, .int .u64 0] 34) • F)) (y : Ent) : ∃ W, (Instr.storeAt 34 (.pointer (some ⟨x, 0, none⟩)) (.agg y.enc.toArray)).run Tryd.prog w = .ok () W ∧ Sat B w0 W (blk x (.cells y.enc.toArray 34) • F) := by
  have hst := run_storeAt_row (P := Tryd.prog) (o := 0) (ty := 34) (v := .agg y.enc.toArray) hS.heap (by simp only [Value.cells, List.size_toArray, Ent.enc_length]; kernel_rfl) (by simp [Value.cells, Ent.enc_length]) (by simpa [Value.cells] using Ent.enc_one y)
  have hS2 := hS.setRow (cs := splice #[.int .i64 0, .int .u64 0] 0 (Value.agg y.enc.toArray).cells.toList)
  refine ⟨_, hst, ?_⟩
  rw [splice_all (by simp [Value.cells, Ent.enc_length])] at hS2 ⊢
  simpa [Value.cells] using hS2
set_option maxRecDepth 8000 in
set_option maxHeartbeats 8000000 in
theorem eNext_any (h : Sat B w0 w (ends b n S • F)) (hl : S.length ≤ 1000) : Calls Tryd.prog 36 #[.pointer (some ⟨b, 0, none⟩)] w fun e w' =>
    e = .returned (nextV S) ∧ Sat B w0 w' (ends b n S • F) := by
  have hst := ent_store
  have hx := h.alloc_ (.cells #[.int .i64 0, .int .u64 0] 34)
  have hxe := h.alloc (.cells #[.int .i64 0, .int .u64 0] 34)
  generalize hRV : nextV S = RV
  have HRV := Lib.hid hRV
  clear hRV
  have HXE := Lib.hid hxe
  clear hxe
  go_enter Tryd.func36, Tryd.ntmps36
  go_wp2_with fail
  go_loopw [4, 5] (fun best i wr => ∃ k : Nat, k ≤ S.length ∧ i = .int .i64 k ∧ BestAt S k best ∧ Sat B w0 wr (blk w.heap.size (.cells #[.int .i64 0, .int .u64 0] 34) • ends b n S • F)) (fun _ i _ => S.length - (intOf i).toNat)
  case atStart => exact ⟨0, Nat.zero_le _, rfl, ⟨-1, rfl, .inl ⟨rfl, rfl⟩⟩, HXE.out⟩
  case round =>
    clear HXE hx h
    obtain ⟨k, hk, rfl, ⟨bv, rfl, HB⟩, hS⟩ := hrel
    obtain ⟨A, c, hO⟩ := hS.pull2.ends_open
    have d1 : wr.cell? ⟨b, 1, none⟩ = some (.slice A S.length c) := by simp [World.cell?, hO.heap]
    by_cases hlt : k < S.length
    · have hlt' : (k : Int) < S.length := by omega
      obtain ⟨g, rfl, _, hcx⟩ := hO.pull2.arr_at Ent.enc_length rfl (g_get hlt)
      have dx0 := hcx 0 _ rfl
      have dx1 := hcx 1 _ rfl
      rw [Nat.add_zero] at dx0
      rcases HB with ⟨hk0, rfl⟩ | ⟨m, hm, rfl, hbst⟩
      · have HK0 := Lib.hid hk0
        clear hO hcx hk0
        go_wp2_with fail
        try go_frame
        refine wp_region_ord [(0, .pure), (1, .pure), (2, .pure), (3, .pure), (4, .pure), (5, .pure), (6, .quiet), (7, .pure), (8, .pure), (9, .pure), (10, .quiet), (11, .pure), (12, .pure), (13, .pure), (14, .quiet), (15, .pure), (16, .pure), (17, .pure), (18, .quiet), (19, .pure), (20, .pure), (21, .pure), (22, .pure), (23, .pure), (24, .pure), (25, .quiet), (26, .pure), (27, .pure), (28, .pure), (29, .quiet), (30, .pure), (31, .pure), (32, .pure), (33, .quiet), (34, .pure), (35, .pure), (36, .pure), (37, .quiet), (38, .pure), (39, .pure), (40, .pure), (41, .pure), (42, .pure), (43, .quiet), (44, .pure), (45, .pure), (46, .pure), (47, .quiet), (48, .pure), (49, .pure), (50, .pure), (51, .quiet), (52, .pure), (53, .pure), (54, .pure), (55, .quiet), (56, .pure), (57, .pure), (58, .pure)] (by kernel_rfl) (by kernel_rfl)
          (fun w' => ∀ p, w'.cell? p = wr.cell? p) (fun _ => rfl) ?_
        iterate 3 (refine ord_pure rfl rfl rfl (fun K' hK => ?_); go_big_quiet_op; refine hK _ ?_; clear hK K')
        iterate 17 (refine ord_skip' rfl rfl (fun K' hK => ?_); go_simp; refine hK _ ?_; clear hK K')
        iterate 2 (refine ord_pure rfl rfl rfl (fun K' hK => ?_); go_big_quiet_op; refine hK _ ?_; clear hK K')
        iterate 36 (refine ord_skip' rfl rfl (fun K' hK => ?_); go_simp; refine hK _ ?_; clear hK K')
        iterate 1 (refine ord_pure rfl rfl rfl (fun K' hK => ?_); go_big_quiet_op; refine hK _ ?_; clear hK K')
        refine ord_nil ?_
        go_wp2_with fail
        go_roundw
        case rel => exact ⟨k + 1, by omega, by go_num, ⟨k, rfl, by rw [HK0.out]; exact best_first⟩, hS.drew⟩
        case measure => simp [intOf]; omega
      · obtain ⟨g', hg', _, hcy⟩ := hO.pull2.arr_at Ent.enc_length rfl (g_get (show m < S.length by omega))
        cases hg'
        have dy0 := hcy 0 _ rfl
        have dy1 := hcy 1 _ rfl
        rw [Nat.add_zero] at dy0
        have hbn := fun h => best_new (k := k) hbst h
        have hbo := fun h => best_old hm hbst h
        have HBN := Lib.hid hbn
        have HBO := Lib.hid hbo
        have hml : m < S.length := by omega
        have hnm : ((m : Int) < 0) = False := by simp
        clear hO hcx hcy hbst hbn hbo
        generalize Hp.g S k = x at *
        generalize Hp.g S m = y at *
        by_cases h1 : x.due < y.due
        · have hxy : x.lt y = true := by rw [Ent.lt_iff]; omega
          have HR := Lib.hid (HBN.out hxy)
          have hb1 : decide (x.due < y.due) = true := decide_eq_true h1
          clear hxy HBN HBO h1
          go_wp2_with fail
          try go_frame
          refine wp_region_ord [(0, .pure), (1, .pure), (2, .pure), (3, .pure), (4, .pure), (5, .pure), (6, .quiet), (7, .pure), (8, .pure), (9, .pure), (10, .quiet), (11, .pure), (12, .pure), (13, .pure), (14, .quiet), (15, .pure), (16, .pure), (17, .pure), (18, .quiet), (19, .pure), (20, .pure), (21, .pure), (22, .pure), (23, .pure), (24, .pure), (25, .quiet), (26, .pure), (27, .pure), (28, .pure), (29, .quiet), (30, .pure), (31, .pure), (32, .pure), (33, .quiet), (34, .pure), (35, .pure), (36, .pure), (37, .quiet), (38, .pure), (39, .pure), (40, .pure), (41, .pure), (42, .pure), (43, .quiet), (44, .pure), (45, .pure), (46, .pure), (47, .quiet), (48, .pure), (49, .pure), (50, .pure), (51, .quiet), (52, .pure), (53, .pure), (54, .pure), (55, .quiet), (56, .pure), (57, .pure), (58, .pure)] (by kernel_rfl) (by kernel_rfl)
            (fun w' => ∀ p, w'.cell? p = wr.cell? p) (fun _ => rfl) ?_
          iterate 6 (refine ord_pure rfl rfl rfl (fun K' hK => ?_); go_big_quiet_op; refine hK _ ?_; clear hK K')
          refine ord_load (t := 30) rfl rfl rfl (p := .pointer (some ⟨b, 1, none⟩)) (v := .slice (some ⟨g, 0, none⟩) S.length c) rfl (fun w' hC => load_one Tryd.underlying30 rfl (by rw [hC]; exact d1)) (fun K' hK => ?_)
          go_simp
          refine hK _ ?_
          clear hK K'
          iterate 3 (refine ord_pure rfl rfl rfl (fun K' hK => ?_); go_big_quiet_op; refine hK _ ?_; clear hK K')
          refine ord_load (t := 23) rfl rfl rfl (p := .pointer (some ⟨g, k * 2 + 1, none⟩)) (v := .int .u64 x.due) rfl (fun w' hC => load_one Tryd.underlying23 rfl (by rw [hC]; exact dx1)) (fun K' hK => ?_)
          go_simp
          refine hK _ ?_
          clear hK K'
          iterate 3 (refine ord_pure rfl rfl rfl (fun K' hK => ?_); go_big_quiet_op; refine hK _ ?_; clear hK K')
          refine ord_load (t := 30) rfl rfl rfl (p := .pointer (some ⟨b, 1, none⟩)) (v := .slice (some ⟨g, 0, none⟩) S.length c) rfl (fun w' hC => load_one Tryd.underlying30 rfl (by rw [hC]; exact d1)) (fun K' hK => ?_)
          go_simp
          refine hK _ ?_
          clear hK K'
          iterate 3 (refine ord_pure rfl rfl rfl (fun K' hK => ?_); go_big_quiet_op; refine hK _ ?_; clear hK K')
          refine ord_load (t := 23) rfl rfl rfl (p := .pointer (some ⟨g, m * 2 + 1, none⟩)) (v := .int .u64 y.due) rfl (fun w' hC => load_one Tryd.underlying23 rfl (by rw [hC]; exact dy1)) (fun K' hK => ?_)
          go_simp
          refine hK _ ?_
          clear hK K'
          iterate 3 (refine ord_pure rfl rfl rfl (fun K' hK => ?_); go_big_quiet_op; refine hK _ ?_; clear hK K')
          iterate 36 (refine ord_skip' rfl rfl (fun K' hK => ?_); go_simp; refine hK _ ?_; clear hK K')
          iterate 1 (refine ord_pure rfl rfl rfl (fun K' hK => ?_); go_big_quiet_op; refine hK _ ?_; clear hK K')
          refine ord_nil ?_
          go_wp2_with fail
          go_roundw
          case rel => exact ⟨k + 1, by omega, by go_num, ⟨k, rfl, HR.out⟩, hS.drew⟩
          case measure => simp [intOf]; omega
        · have hb1 : decide (x.due < y.due) = false := decide_eq_false h1
          by_cases h2 : x.due = y.due
          · have h2b : (x.due == y.due) = true := by simpa using h2
            by_cases h3 : x.id < y.id
            · have hxy : x.lt y = true := by rw [Ent.lt_iff]; omega
              have HR := Lib.hid (HBN.out hxy)
              have hb3 : decide (x.id < y.id) = true := decide_eq_true h3
              clear hxy HBN HBO h2 h1 h3
              go_wp2_with fail
              try go_frame
              refine wp_region_ord [(0, .pure), (1, .pure), (2, .pure), (3, .pure), (4, .pure), (5, .pure), (6, .quiet), (7, .pure), (8, .pure), (9, .pure), (10, .quiet), (11, .pure), (12, .pure), (13, .pure), (14, .quiet), (15, .pure), (16, .pure), (17, .pure), (18, .quiet), (19, .pure), (20, .pure), (21, .pure), (22, .pure), (23, .pure), (24, .pure), (25, .quiet), (26, .pure), (27, .pure), (28, .pure), (29, .quiet), (30, .pure), (31, .pure), (32, .pure), (33, .quiet), (34, .pure), (35, .pure), (36, .pure), (37, .quiet), (38, .pure), (39, .pure), (40, .pure), (41, .pure), (42, .pure), (43, .quiet), (44, .pure), (45, .pure), (46, .pure), (47, .quiet), (48, .pure), (49, .pure), (50, .pure), (51, .quiet), (52, .pure), (53, .pure), (54, .pure), (55, .quiet), (56, .pure), (57, .pure), (58, .pure)] (by kernel_rfl) (by kernel_rfl)
                (fun w' => ∀ p, w'.cell? p = wr.cell? p) (fun _ => rfl) ?_
              iterate 6 (refine ord_pure rfl rfl rfl (fun K' hK => ?_); go_big_quiet_op; refine hK _ ?_; clear hK K')
              refine ord_load (t := 30) rfl rfl rfl (p := .pointer (some ⟨b, 1, none⟩)) (v := .slice (some ⟨g, 0, none⟩) S.length c) rfl (fun w' hC => load_one Tryd.underlying30 rfl (by rw [hC]; exact d1)) (fun K' hK => ?_)
              go_simp
              refine hK _ ?_
              clear hK K'
              iterate 3 (refine ord_pure rfl rfl rfl (fun K' hK => ?_); go_big_quiet_op; refine hK _ ?_; clear hK K')
              refine ord_load (t := 23) rfl rfl rfl (p := .pointer (some ⟨g, k * 2 + 1, none⟩)) (v := .int .u64 x.due) rfl (fun w' hC => load_one Tryd.underlying23 rfl (by rw [hC]; exact dx1)) (fun K' hK => ?_)
              go_simp
              refine hK _ ?_
              clear hK K'
              iterate 3 (refine ord_pure rfl rfl rfl (fun K' hK => ?_); go_big_quiet_op; refine hK _ ?_; clear hK K')
              refine ord_load (t := 30) rfl rfl rfl (p := .pointer (some ⟨b, 1, none⟩)) (v := .slice (some ⟨g, 0, none⟩) S.length c) rfl (fun w' hC => load_one Tryd.underlying30 rfl (by rw [hC]; exact d1)) (fun K' hK => ?_)
              go_simp
              refine hK _ ?_
              clear hK K'
              iterate 3 (refine ord_pure rfl rfl rfl (fun K' hK => ?_); go_big_quiet_op; refine hK _ ?_; clear hK K')
              refine ord_load (t := 23) rfl rfl rfl (p := .pointer (some ⟨g, m * 2 + 1, none⟩)) (v := .int .u64 y.due) rfl (fun w' hC => load_one Tryd.underlying23 rfl (by rw [hC]; exact dy1)) (fun K' hK => ?_)
              go_simp
              refine hK _ ?_
              clear hK K'
              iterate 6 (refine ord_pure rfl rfl rfl (fun K' hK => ?_); go_big_quiet_op; refine hK _ ?_; clear hK K')
              refine ord_load (t := 30) rfl rfl rfl (p := .pointer (some ⟨b, 1, none⟩)) (v := .slice (some ⟨g, 0, none⟩) S.length c) rfl (fun w' hC => load_one Tryd.underlying30 rfl (by rw [hC]; exact d1)) (fun K' hK => ?_)
              go_simp
              refine hK _ ?_
              clear hK K'
              iterate 3 (refine ord_pure rfl rfl rfl (fun K' hK => ?_); go_big_quiet_op; refine hK _ ?_; clear hK K')
              refine ord_load (t := 23) rfl rfl rfl (p := .pointer (some ⟨g, k * 2 + 1, none⟩)) (v := .int .u64 x.due) rfl (fun w' hC => load_one Tryd.underlying23 rfl (by rw [hC]; exact dx1)) (fun K' hK => ?_)
              go_simp
              refine hK _ ?_
              clear hK K'
              iterate 3 (refine ord_pure rfl rfl rfl (fun K' hK => ?_); go_big_quiet_op; refine hK _ ?_; clear hK K')
              refine ord_load (t := 30) rfl rfl rfl (p := .pointer (some ⟨b, 1, none⟩)) (v := .slice (some ⟨g, 0, none⟩) S.length c) rfl (fun w' hC => load_one Tryd.underlying30 rfl (by rw [hC]; exact d1)) (fun K' hK => ?_)
              go_simp
              refine hK _ ?_
              clear hK K'
              iterate 3 (refine ord_pure rfl rfl rfl (fun K' hK => ?_); go_big_quiet_op; refine hK _ ?_; clear hK K')
              refine ord_load (t := 23) rfl rfl rfl (p := .pointer (some ⟨g, m * 2 + 1, none⟩)) (v := .int .u64 y.due) rfl (fun w' hC => load_one Tryd.underlying23 rfl (by rw [hC]; exact dy1)) (fun K' hK => ?_)
              go_simp
              refine hK _ ?_
              clear hK K'
              iterate 5 (refine ord_pure rfl rfl rfl (fun K' hK => ?_); go_big_quiet_op; refine hK _ ?_; clear hK K')
              refine ord_load (t := 30) rfl rfl rfl (p := .pointer (some ⟨b, 1, none⟩)) (v := .slice (some ⟨g, 0, none⟩) S.length c) rfl (fun w' hC => load_one Tryd.underlying30 rfl (by rw [hC]; exact d1)) (fun K' hK => ?_)
              go_simp
              refine hK _ ?_
              clear hK K'
              iterate 3 (refine ord_pure rfl rfl rfl (fun K' hK => ?_); go_big_quiet_op; refine hK _ ?_; clear hK K')
              refine ord_load (t := 3) rfl rfl rfl (p := .pointer (some ⟨g, k * 2, none⟩)) (v := .int .i64 x.id) rfl (fun w' hC => load_one Tryd.underlying3 rfl (by rw [hC]; exact dx0)) (fun K' hK => ?_)
              go_simp
              refine hK _ ?_
              clear hK K'
              iterate 3 (refine ord_pure rfl rfl rfl (fun K' hK => ?_); go_big_quiet_op; refine hK _ ?_; clear hK K')
              refine ord_load (t := 30) rfl rfl rfl (p := .pointer (some ⟨b, 1, none⟩)) (v := .slice (some ⟨g, 0, none⟩) S.length c) rfl (fun w' hC => load_one Tryd.underlying30 rfl (by rw [hC]; exact d1)) (fun K' hK => ?_)
              go_simp
              refine hK _ ?_
              clear hK K'
              iterate 3 (refine ord_pure rfl rfl rfl (fun K' hK => ?_); go_big_quiet_op; refine hK _ ?_; clear hK K')
              refine ord_load (t := 3) rfl rfl rfl (p := .pointer (some ⟨g, m * 2, none⟩)) (v := .int .i64 y.id) rfl (fun w' hC => load_one Tryd.underlying3 rfl (by rw [hC]; exact dy0)) (fun K' hK => ?_)
              go_simp
              refine hK _ ?_
              clear hK K'
              iterate 3 (refine ord_pure rfl rfl rfl (fun K' hK => ?_); go_big_quiet_op; refine hK _ ?_; clear hK K')
              refine ord_nil ?_
              go_wp2_with fail
              go_roundw
              case rel => exact ⟨k + 1, by omega, by go_num, ⟨k, rfl, HR.out⟩, hS.drew⟩
              case measure => simp [intOf]; omega
            · have hb3 : decide (x.id < y.id) = false := decide_eq_false h3
              have hxy : x.lt y = false := by rw [← Bool.not_eq_true, Ent.lt_iff]; omega
              have HR := Lib.hid (HBO.out hxy)
              clear hxy HBN HBO h2 h1 h3
              go_wp2_with fail
              try go_frame
              refine wp_region_ord [(0, .pure), (1, .pure), (2, .pure), (3, .pure), (4, .pure), (5, .pure), (6, .quiet), (7, .pure), (8, .pure), (9, .pure), (10, .quiet), (11, .pure), (12, .pure), (13, .pure), (14, .quiet), (15, .pure), (16, .pure), (17, .pure), (18, .quiet), (19, .pure), (20, .pure), (21, .pure), (22, .pure), (23, .pure), (24, .pure), (25, .quiet), (26, .pure), (27, .pure), (28, .pure), (29, .quiet), (30, .pure), (31, .pure), (32, .pure), (33, .quiet), (34, .pure), (35, .pure), (36, .pure), (37, .quiet), (38, .pure), (39, .pure), (40, .pure), (41, .pure), (42, .pure), (43, .quiet), (44, .pure), (45, .pure), (46, .pure), (47, .quiet), (48, .pure), (49, .pure), (50, .pure), (51, .quiet), (52, .pure), (53, .pure), (54, .pure), (55, .quiet), (56, .pure), (57, .pure), (58, .pure)] (by kernel_rfl) (by kernel_rfl)
                (fun w' => ∀ p, w'.cell? p = wr.cell? p) (fun _ => rfl) ?_
              iterate 6 (refine ord_pure rfl rfl rfl (fun K' hK => ?_); go_big_quiet_op; refine hK _ ?_; clear hK K')
              refine ord_load (t := 30) rfl rfl rfl (p := .pointer (some ⟨b, 1, none⟩)) (v := .slice (some ⟨g, 0, none⟩) S.length c) rfl (fun w' hC => load_one Tryd.underlying30 rfl (by rw [hC]; exact d1)) (fun K' hK => ?_)
              go_simp
              refine hK _ ?_
              clear hK K'
              iterate 3 (refine ord_pure rfl rfl rfl (fun K' hK => ?_); go_big_quiet_op; refine hK _ ?_; clear hK K')
              refine ord_load (t := 23) rfl rfl rfl (p := .pointer (some ⟨g, k * 2 + 1, none⟩)) (v := .int .u64 x.due) rfl (fun w' hC => load_one Tryd.underlying23 rfl (by rw [hC]; exact dx1)) (fun K' hK => ?_)
              go_simp
              refine hK _ ?_
              clear hK K'
              iterate 3 (refine ord_pure rfl rfl rfl (fun K' hK => ?_); go_big_quiet_op; refine hK _ ?_; clear hK K')
              refine ord_load (t := 30) rfl rfl rfl (p := .pointer (some ⟨b, 1, none⟩)) (v := .slice (some ⟨g, 0, none⟩) S.length c) rfl (fun w' hC => load_one Tryd.underlying30 rfl (by rw [hC]; exact d1)) (fun K' hK => ?_)
              go_simp
              refine hK _ ?_
              clear hK K'
              iterate 3 (refine ord_pure rfl rfl rfl (fun K' hK => ?_); go_big_quiet_op; refine hK _ ?_; clear hK K')
              refine ord_load (t := 23) rfl rfl rfl (p := .pointer (some ⟨g, m * 2 + 1, none⟩)) (v := .int .u64 y.due) rfl (fun w' hC => load_one Tryd.underlying23 rfl (by rw [hC]; exact dy1)) (fun K' hK => ?_)
              go_simp
              refine hK _ ?_
              clear hK K'
              iterate 6 (refine ord_pure rfl rfl rfl (fun K' hK => ?_); go_big_quiet_op; refine hK _ ?_; clear hK K')
              refine ord_load (t := 30) rfl rfl rfl (p := .pointer (some ⟨b, 1, none⟩)) (v := .slice (some ⟨g, 0, none⟩) S.length c) rfl (fun w' hC => load_one Tryd.underlying30 rfl (by rw [hC]; exact d1)) (fun K' hK => ?_)
              go_simp
              refine hK _ ?_
              clear hK K'
              iterate 3 (refine ord_pure rfl rfl rfl (fun K' hK => ?_); go_big_quiet_op; refine hK _ ?_; clear hK K')
              refine ord_load (t := 23) rfl rfl rfl (p := .pointer (some ⟨g, k * 2 + 1, none⟩)) (v := .int .u64 x.due) rfl (fun w' hC => load_one Tryd.underlying23 rfl (by rw [hC]; exact dx1)) (fun K' hK => ?_)
              go_simp
              refine hK _ ?_
              clear hK K'
              iterate 3 (refine ord_pure rfl rfl rfl (fun K' hK => ?_); go_big_quiet_op; refine hK _ ?_; clear hK K')
              refine ord_load (t := 30) rfl rfl rfl (p := .pointer (some ⟨b, 1, none⟩)) (v := .slice (some ⟨g, 0, none⟩) S.length c) rfl (fun w' hC => load_one Tryd.underlying30 rfl (by rw [hC]; exact d1)) (fun K' hK => ?_)
              go_simp
              refine hK _ ?_
              clear hK K'
              iterate 3 (refine ord_pure rfl rfl rfl (fun K' hK => ?_); go_big_quiet_op; refine hK _ ?_; clear hK K')
              refine ord_load (t := 23) rfl rfl rfl (p := .pointer (some ⟨g, m * 2 + 1, none⟩)) (v := .int .u64 y.due) rfl (fun w' hC => load_one Tryd.underlying23 rfl (by rw [hC]; exact dy1)) (fun K' hK => ?_)
              go_simp
              refine hK _ ?_
              clear hK K'
              iterate 5 (refine ord_pure rfl rfl rfl (fun K' hK => ?_); go_big_quiet_op; refine hK _ ?_; clear hK K')
              refine ord_load (t := 30) rfl rfl rfl (p := .pointer (some ⟨b, 1, none⟩)) (v := .slice (some ⟨g, 0, none⟩) S.length c) rfl (fun w' hC => load_one Tryd.underlying30 rfl (by rw [hC]; exact d1)) (fun K' hK => ?_)
              go_simp
              refine hK _ ?_
              clear hK K'
              iterate 3 (refine ord_pure rfl rfl rfl (fun K' hK => ?_); go_big_quiet_op; refine hK _ ?_; clear hK K')
              refine ord_load (t := 3) rfl rfl rfl (p := .pointer (some ⟨g, k * 2, none⟩)) (v := .int .i64 x.id) rfl (fun w' hC => load_one Tryd.underlying3 rfl (by rw [hC]; exact dx0)) (fun K' hK => ?_)
              go_simp
              refine hK _ ?_
              clear hK K'
              iterate 3 (refine ord_pure rfl rfl rfl (fun K' hK => ?_); go_big_quiet_op; refine hK _ ?_; clear hK K')
              refine ord_load (t := 30) rfl rfl rfl (p := .pointer (some ⟨b, 1, none⟩)) (v := .slice (some ⟨g, 0, none⟩) S.length c) rfl (fun w' hC => load_one Tryd.underlying30 rfl (by rw [hC]; exact d1)) (fun K' hK => ?_)
              go_simp
              refine hK _ ?_
              clear hK K'
              iterate 3 (refine ord_pure rfl rfl rfl (fun K' hK => ?_); go_big_quiet_op; refine hK _ ?_; clear hK K')
              refine ord_load (t := 3) rfl rfl rfl (p := .pointer (some ⟨g, m * 2, none⟩)) (v := .int .i64 y.id) rfl (fun w' hC => load_one Tryd.underlying3 rfl (by rw [hC]; exact dy0)) (fun K' hK => ?_)
              go_simp
              refine hK _ ?_
              clear hK K'
              iterate 3 (refine ord_pure rfl rfl rfl (fun K' hK => ?_); go_big_quiet_op; refine hK _ ?_; clear hK K')
              refine ord_nil ?_
              go_wp2_with fail
              go_roundw
              case rel => exact ⟨k + 1, by omega, by go_num, ⟨m, rfl, HR.out⟩, hS.drew⟩
              case measure => simp [intOf]; omega
          · have h2b : (x.due == y.due) = false := by simpa using h2
            have hxy : x.lt y = false := by rw [← Bool.not_eq_true, Ent.lt_iff]; omega
            have HR := Lib.hid (HBO.out hxy)
            clear hxy HBN HBO h2 h1
            go_wp2_with fail
            try go_frame
            refine wp_region_ord [(0, .pure), (1, .pure), (2, .pure), (3, .pure), (4, .pure), (5, .pure), (6, .quiet), (7, .pure), (8, .pure), (9, .pure), (10, .quiet), (11, .pure), (12, .pure), (13, .pure), (14, .quiet), (15, .pure), (16, .pure), (17, .pure), (18, .quiet), (19, .pure), (20, .pure), (21, .pure), (22, .pure), (23, .pure), (24, .pure), (25, .quiet), (26, .pure), (27, .pure), (28, .pure), (29, .quiet), (30, .pure), (31, .pure), (32, .pure), (33, .quiet), (34, .pure), (35, .pure), (36, .pure), (37, .quiet), (38, .pure), (39, .pure), (40, .pure), (41, .pure), (42, .pure), (43, .quiet), (44, .pure), (45, .pure), (46, .pure), (47, .quiet), (48, .pure), (49, .pure), (50, .pure), (51, .quiet), (52, .pure), (53, .pure), (54, .pure), (55, .quiet), (56, .pure), (57, .pure), (58, .pure)] (by kernel_rfl) (by kernel_rfl)
              (fun w' => ∀ p, w'.cell? p = wr.cell? p) (fun _ => rfl) ?_
            iterate 6 (refine ord_pure rfl rfl rfl (fun K' hK => ?_); go_big_quiet_op; refine hK _ ?_; clear hK K')
            refine ord_load (t := 30) rfl rfl rfl (p := .pointer (some ⟨b, 1, none⟩)) (v := .slice (some ⟨g, 0, none⟩) S.length c) rfl (fun w' hC => load_one Tryd.underlying30 rfl (by rw [hC]; exact d1)) (fun K' hK => ?_)
            go_simp
            refine hK _ ?_
            clear hK K'
            iterate 3 (refine ord_pure rfl rfl rfl (fun K' hK => ?_); go_big_quiet_op; refine hK _ ?_; clear hK K')
            refine ord_load (t := 23) rfl rfl rfl (p := .pointer (some ⟨g, k * 2 + 1, none⟩)) (v := .int .u64 x.due) rfl (fun w' hC => load_one Tryd.underlying23 rfl (by rw [hC]; exact dx1)) (fun K' hK => ?_)
            go_simp
            refine hK _ ?_
            clear hK K'
            iterate 3 (refine ord_pure rfl rfl rfl (fun K' hK => ?_); go_big_quiet_op; refine hK _ ?_; clear hK K')
            refine ord_load (t := 30) rfl rfl rfl (p := .pointer (some ⟨b, 1, none⟩)) (v := .slice (some ⟨g, 0, none⟩) S.length c) rfl (fun w' hC => load_one Tryd.underlying30 rfl (by rw [hC]; exact d1)) (fun K' hK => ?_)
            go_simp
            refine hK _ ?_
            clear hK K'
            iterate 3 (refine ord_pure rfl rfl rfl (fun K' hK => ?_); go_big_quiet_op; refine hK _ ?_; clear hK K')
            refine ord_load (t := 23) rfl rfl rfl (p := .pointer (some ⟨g, m * 2 + 1, none⟩)) (v := .int .u64 y.due) rfl (fun w' hC => load_one Tryd.underlying23 rfl (by rw [hC]; exact dy1)) (fun K' hK => ?_)
            go_simp
            refine hK _ ?_
            clear hK K'
            iterate 6 (refine ord_pure rfl rfl rfl (fun K' hK => ?_); go_big_quiet_op; refine hK _ ?_; clear hK K')
            refine ord_load (t := 30) rfl rfl rfl (p := .pointer (some ⟨b, 1, none⟩)) (v := .slice (some ⟨g, 0, none⟩) S.length c) rfl (fun w' hC => load_one Tryd.underlying30 rfl (by rw [hC]; exact d1)) (fun K' hK => ?_)
            go_simp
            refine hK _ ?_
            clear hK K'
            iterate 3 (refine ord_pure rfl rfl rfl (fun K' hK => ?_); go_big_quiet_op; refine hK _ ?_; clear hK K')
            refine ord_load (t := 23) rfl rfl rfl (p := .pointer (some ⟨g, k * 2 + 1, none⟩)) (v := .int .u64 x.due) rfl (fun w' hC => load_one Tryd.underlying23 rfl (by rw [hC]; exact dx1)) (fun K' hK => ?_)
            go_simp
            refine hK _ ?_
            clear hK K'
            iterate 3 (refine ord_pure rfl rfl rfl (fun K' hK => ?_); go_big_quiet_op; refine hK _ ?_; clear hK K')
            refine ord_load (t := 30) rfl rfl rfl (p := .pointer (some ⟨b, 1, none⟩)) (v := .slice (some ⟨g, 0, none⟩) S.length c) rfl (fun w' hC => load_one Tryd.underlying30 rfl (by rw [hC]; exact d1)) (fun K' hK => ?_)
            go_simp
            refine hK _ ?_
            clear hK K'
            iterate 3 (refine ord_pure rfl rfl rfl (fun K' hK => ?_); go_big_quiet_op; refine hK _ ?_; clear hK K')
            refine ord_load (t := 23) rfl rfl rfl (p := .pointer (some ⟨g, m * 2 + 1, none⟩)) (v := .int .u64 y.due) rfl (fun w' hC => load_one Tryd.underlying23 rfl (by rw [hC]; exact dy1)) (fun K' hK => ?_)
            go_simp
            refine hK _ ?_
            clear hK K'
            iterate 2 (refine ord_pure rfl rfl rfl (fun K' hK => ?_); go_big_quiet_op; refine hK _ ?_; clear hK K')
            iterate 17 (refine ord_skip' rfl rfl (fun K' hK => ?_); go_simp; refine hK _ ?_; clear hK K')
            iterate 2 (refine ord_pure rfl rfl rfl (fun K' hK => ?_); go_big_quiet_op; refine hK _ ?_; clear hK K')
            refine ord_nil ?_
            go_wp2_with fail
            go_roundw
            case rel => exact ⟨k + 1, by omega, by go_num, ⟨m, rfl, HR.out⟩, hS.drew⟩
            case measure => simp [intOf]; omega
    · obtain rfl : k = S.length := by omega
      rcases HB with ⟨hk0, rfl⟩ | ⟨m, hm, rfl, hbst⟩
      · have hS0 : S = [] := List.eq_nil_of_length_eq_zero hk0
        have hrv : RV = .tuple #[.agg #[.int .i64 0, .int .u64 0], .bool false] := by rw [← HRV.out, hS0]; rfl
        subst hrv
        have hl := run_loadAt_row (P := Tryd.prog) (o := 0) (ty := 34) (cs := [.int .i64 0, .int .u64 0]) hS.heap Tryd.underlying34 rfl (by kernel_rfl) (fun j u hu => by simpa using hu)
        obtain ⟨W2, hs2, hS2⟩ := ent_put hS ⟨0, 0⟩
        have hl2 := run_loadAt_row (P := Tryd.prog) (o := 0) (ty := 34) (cs := Ent.enc ⟨0, 0⟩) hS2.heap Tryd.underlying34 rfl (by kernel_rfl) (fun j u hu => by simpa using hu)
        have HS2 := Lib.hid hS2.drop
        clear hS2 hO hS hS0 hk0 hl
        go_wp2_with (refine wpList_store_run (t := 34) rfl rfl rfl rfl hs2 (stop_ ?_))
        unfold Stop
        go_wp2_with fail
        exact ret_cell_tmp rfl rfl rfl hl2 rfl ⟨rfl, HS2.out⟩
      · have hmn := best_min hm hbst
        have hrv : RV = .tuple #[.agg (Hp.g S m).enc.toArray, .bool true] := by rw [← HRV.out]; unfold nextV; rw [hmn]
        obtain ⟨g, rfl, _, hcx⟩ := hO.pull2.arr_at Ent.enc_length rfl (g_get hm)
        have dx0 := hcx 0 _ rfl
        have dx1 := hcx 1 _ rfl
        rw [Nat.add_zero] at dx0
        generalize Hp.g S m = x at *
        have HRW := Lib.hid hrv
        clear hrv
        obtain ⟨W2, hs2, hS2⟩ := ent_put hS x
        have hl0 : (Instr.loadAt 34 (.pointer (some ⟨g, m * 2, none⟩))).run Tryd.prog wr = .ok (.agg x.enc.toArray) wr :=
          run_loadAt_cells Tryd.underlying34 rfl (by rw [Ent.enc_length]; kernel_rfl) (fun j u hu => by
            rw [Addr.add_lit]; exact hcx j u hu)
        have hl2 := run_loadAt_row (P := Tryd.prog) (o := 0) (ty := 34) (cs := x.enc) hS2.heap Tryd.underlying34 rfl (by rw [Ent.enc_length]; kernel_rfl) (fun j u hu => by simpa using hu)
        have HS2 := Lib.hid hS2.drop
        have hnm : ((m : Int) < 0) = False := by simp
        clear hS2 hO hS hmn hbst hcx
        go_wp2_with (refine wpList_load_run (t := 34) rfl rfl rfl hl0 (stop_ ?_))
        unfold Stop
        go_wp2_with (refine wpList_store_run (t := 34) rfl rfl rfl rfl hs2 (stop_ ?_))
        unfold Stop
        go_wp2_with fail
        exact ret_cell_tmp rfl rfl rfl hl2 rfl (by rw [HRW.out]; exact ⟨rfl, HS2.out⟩)
end
end Go.Proofs.YtepaanpdjadakaaDoor
