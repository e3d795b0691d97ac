import Derived.Test.YtepaanpdjadakaaChain5
/-! The document's Follow. -/
namespace Go.Proofs.Ytepaanpdjadakaa
open Go Go.RowKit

set_option maxRecDepth 8000 in
set_option maxHeartbeats 8000000 in
theorem ref_any (m : Msg) (l : List Rec) (name : ByteArray) (w : World) (hr : RecsAt w m.ans l) (hsm : l.length ≤ 4096) :
    Calls Try.prog 18 #[.agg m.cells, .string name] w fun e w' =>
      ∃ v1 v2, e = .returned (.tuple #[v1, v2]) ∧ Sat w.heap.size w w' (arr 49 18 v1 (followOf l name).1.length ((followOf l name).1.flatMap Fnd.enc) • arr 9 1 v2 (followOf l name).2.length ((followOf l name).2.map Value.string) • emp) := by
  have hmn : m.cells.size = 9 := rfl
  have h6 : m.cells[6]? = some m.ans := rfl
  obtain ⟨A, c, hA⟩ := hr.1.len
  have hll := hr.2
  generalize hM : m.cells = M at *
  go_enter Try.func18, Try.ntmps18
  go_wp2_with fail
  have hS0 := ((Sat.start w).alloc (.cells M 38)).alloc (.cells #[.string name] 9)
  rw [World.size_alloc] at hS0
  go_loopw [1, 6, 7] (fun v1 v6 v7 wr => ∃ (k : Nat) (names : List ByteArray) (nm : ByteArray) (tl : Int), v1 = .string nm ∧ v7 = .int .u32 tl ∧ names.length + k = 16 ∧
      Sat w.heap.size w wr (blk w.heap.size (.cells M 38) • arr 9 1 v6 names.length (names.map Value.string) • emp) ∧ followOf l name = followFrom l (k + 1) names nm tl)
    (fun _ v6 _ _ => 17 - lenOf' v6)
  case atStart =>
    refine ⟨15, [name], name, 4294967295, rfl, rfl, rfl, ?_, rfl⟩
    have h := Sat.arr_shut (n := 1) (cap := 1) (sz := 1) (xs := [.string name]) (Nat.le_refl _) (by decide) (by simp) (by simp) hS0
    exact h.pull2
  case round =>
    obtain ⟨k, names, nm, tl, rfl, rfl, hkn, hS, hfo⟩ := hrel
    clear hS0
    have hrr := hr.below hS.below
    rw [hA] at hrr
    have hc6 : wr.cell? ⟨w.heap.size, 6, none⟩ = some (.slice A l.length c) := by rw [← hA]; simp [World.cell?, hS.heap, h6]
    go_wp2_with fail
    subst hM
    refine (alias_any l _ nm _ hrr).mono ?_
    rintro e w2 ⟨rfl, hb2⟩
    have hS2 := hS.below_ hb2
    have hrr2 := hr.below hS2.below
    have hst : ∀ (r : Rec) (W : World) (z : Array Value), z.size = 23 → (Instr.storeAt 54 (.pointer (some ⟨W.heap.size, 0, none⟩)) (.agg r.enc.toArray)).run Try.prog (W.alloc (.cells z 54)) = .ok () (W.alloc (.cells r.enc.toArray 54)) :=
      fun r W z hz => run_storeAt_new (v := .agg r.enc.toArray) (by simp only [Value.cells, List.size_toArray, r.enc_length]; kernel_rfl) (by simp only [Value.cells, List.size_toArray, r.enc_length]; exact hz) (by simpa [Value.cells] using r.enc_one)
    cases hnx : nextOf l nm
    case none =>
      have hfin := hfo.trans (follow_none hnx)
      simp only [Option.getD_none, Option.isSome_none]
      have HF := Lib.hid hfin
      clear hfin hfo hnx
      have hc6n : ∀ (z : Array Value), (w2.alloc (.cells z 54)).cell? ⟨w.heap.size, 6, none⟩ = some (.slice A l.length c) := fun z => by rw [← hA]; simp [World.cell?, (hS2.alloc_ (.cells z 54)).heap, h6]
      go_wp2_with (first | (refine wpList_store_run rfl rfl rfl rfl (hst _ _ _ rfl) ?_))
      have hSo := hS2.alloc_ (.cells zeroRec.enc.toArray 54)
      clear hc6 hc6n hS2
      go_loopw [10, 11] (fun v10 v11 wr => ∃ k : Nat, k ≤ l.length ∧ v11 = .int .i64 k ∧ (foundOf (l.take k) nm tl).length ≤ k ∧ Sat w.heap.size w wr (arr 49 18 v10 (foundOf (l.take k) nm tl).length ((foundOf (l.take k) nm tl).flatMap Fnd.enc) • blk w.heap.size (.cells m.cells 38) • arr 9 1 u6 names.length (names.map Value.string) • emp))
        (fun _ i _ => l.length - (intOf i).toNat)
      case atStart => exact ⟨0, Nat.zero_le _, rfl, Nat.le_refl _, arr_nil hSo⟩
      case round =>
        obtain ⟨k, hk, rfl, hle, hS⟩ := hrel
        clear hSo
        have hc6 : wr.cell? ⟨w.heap.size, 6, none⟩ = some (.slice A l.length c) := by rw [← hA]; simp [World.cell?, hS.pull2.heap, h6]
        by_cases hlt : k < l.length
        · obtain ⟨r, hrk⟩ : ∃ r, l[k]? = some r := ⟨_, List.getElem?_eq_getElem hlt⟩
          have hft := foundOf_take l nm tl k r hrk
          have hlen := addFound_len nm tl (foundOf (l.take k) nm tl) r
          rw [← hft] at hlen
          have hrw := hr.below hS.below
          rw [hA] at hrw
          obtain ⟨a, c', hv, hcell⟩ := hrw.1.elem Rec.enc_length hrk
          simp only [Value.slice.injEq] at hv
          obtain ⟨rfl, -, rfl⟩ := hv
          have hl1 : (Instr.loadAt 54 (.pointer (some (a.add (k * 23))))).run Try.prog wr = .ok (.agg r.enc.toArray) wr :=
            run_loadAt_cells Try.underlying54 rfl (by rw [r.enc_length]; kernel_rfl) (fun j u hu => by rw [add_add']; exact hcell j u hu)
          have hSr := hS.alloc (.cells r.enc.toArray 54)
          have hc0 : (wr.alloc (.cells r.enc.toArray 54)).cell? ⟨wr.heap.size, 0, none⟩ = some (.string r.name) := by rw [cell_new]; simpa using r.at0
          have hc1 : (wr.alloc (.cells r.enc.toArray 54)).cell? ⟨wr.heap.size, 1, none⟩ = some (.int .i64 r.typ) := by rw [cell_new]; simpa using r.at1
          have hc2 : (wr.alloc (.cells r.enc.toArray 54)).cell? ⟨wr.heap.size, 2, none⟩ = some (.int .i64 r.cls) := by rw [cell_new]; simpa using r.at2
          generalize hfo : foundOf (l.take k) nm tl = fs at *
          have hway : ∃ b : Bool, (r.isAddr && (r.name.toList == nm.toList)) = !b ∧ (((r.name.toList == nm.toList) = false ∧ b = true) ∨
              ((r.name.toList == nm.toList) = true ∧ (((r.typ != 1) = false ∧ (((r.cls != 1) = false ∧ b = false) ∨ ((r.cls != 1) = true ∧ b = true))) ∨
               ((r.typ != 1) = true ∧ (((r.typ != 28) = false ∧ (((r.cls != 1) = false ∧ b = false) ∨ ((r.cls != 1) = true ∧ b = true))) ∨ ((r.typ != 28) = true ∧ b = true)))))) := by
            refine ⟨!(r.isAddr && (r.name.toList == nm.toList)), by simp, ?_⟩
            unfold Rec.isAddr bne
            cases hA1 : (r.name.toList == nm.toList) <;> cases hA2 : (r.typ == 1) <;> cases hA3 : (r.typ == 28) <;> cases hA4 : (r.cls == 1) <;> simp
          obtain ⟨A10, c10, rfl⟩ := hS.arr_form
          obtain ⟨b, hcand, hway⟩ := hway
          have hfsl : fs.length ≤ 4096 := by omega
          have hfin : ∀ q, (b || fs.any fun x => decide (x.addr = r.addr)) = q → foundOf (l.take (k + 1)) nm tl = if q then fs else fs ++ [⟨r.addr, if r.ttl < tl then r.ttl else tl⟩] := by
            intro q hq
            rw [hft]
            unfold addFound
            rw [hcand]
            cases b <;> cases hany : (fs.any fun x => decide (x.addr = r.addr)) <;> simp_all
          have HC := Lib.hid hfin
          clear hcand hft hfin
          rcases hway with ⟨hnm, hb⟩ | ⟨hnm, ⟨hty, ⟨hcl, hb⟩ | ⟨hcl, hb⟩⟩ | ⟨hty, ⟨hty2, ⟨hcl, hb⟩ | ⟨hcl, hb⟩⟩ | ⟨hty2, hb⟩⟩⟩
          all_goals
            have HB := Lib.hid hb
            clear hb
            go_wp2_with (first | (refine wpList_load_run (t := 54) rfl rfl rfl hl1 ?_) | (refine wpList_store_run (t := 54) rfl rfl rfl rfl (hst r _ _ rfl) (stop_ ?_)))
            unfold Stop
            go_wp2_with fail
            clear hc0 hc1 hc2 hc6 hl1
            generalize hrb : wr.heap.size = rb at *
            go_loopw [13, 14] (fun v13 v14 wq => ∃ j : Nat, j ≤ fs.length ∧ v14 = .int .i64 j ∧ v13 = .bool (b || (fs.take j).any fun x => decide (x.addr = r.addr)) ∧ Sat w.heap.size w wq (blk rb (.cells r.enc.toArray 54) • arr 49 18 (.slice A10 fs.length c10) fs.length (fs.flatMap Fnd.enc) • blk w.heap.size (.cells m.cells 38) • arr 9 1 u6 names.length (names.map Value.string) • emp))
              (fun _ i _ => fs.length - (intOf i).toNat)
            case atStart => exact ⟨0, Nat.zero_le _, rfl, by rw [HB.out]; rfl, hSr⟩
            case round =>
              obtain ⟨j, hj, rfl, rfl, hS3⟩ := hrel
              clear hSr
              by_cases hjl : j < fs.length
              · obtain ⟨x, hxj⟩ : ∃ x, fs[j]? = some x := ⟨_, List.getElem?_eq_getElem hjl⟩
                rcases hS3.pull2.arr_open with ⟨_, h0, _, _⟩ | ⟨g, cap, cur, hv, hn1, hn2, hn3, hn4, hSb⟩
                · omega
                · simp only [Value.slice.injEq] at hv
                  obtain ⟨rfl, -, rfl⟩ := hv
                  have hcx : ∀ (i : Nat) (u : Value), x.addr.enc[i]? = some u → cur[j * 18 + i]? = some u := by
                    intro i u hu
                    have hi : i < 18 := by have := (List.getElem?_eq_some_iff.1 hu).1; rw [x.addr.enc_length] at this; omega
                    have h1 : (cur.toList.take (fs.length * 18))[j * 18 + i]? = (fs.flatMap Fnd.enc)[j * 18 + i]? := by rw [hn4]
                    rw [flat_get Fnd.enc_length fs j i x hxj hi, x.at0 i u hu, List.getElem?_take, if_pos (by omega)] at h1
                    simpa using h1
                  have hstep : (fs.take (j + 1)).any (fun x => decide (x.addr = r.addr)) = ((fs.take j).any (fun x => decide (x.addr = r.addr)) || decide (x.addr = r.addr)) := by
                    rw [List.take_add_one, hxj, List.any_append]; simp
                  cases hq : (b || (fs.take j).any fun x => decide (x.addr = r.addr))
                  · have hnx : (b || (fs.take (j + 1)).any fun x => decide (x.addr = r.addr)) = decide (x.addr = r.addr) := by
                      rw [hstep, ← Bool.or_assoc, hq, Bool.false_or]
                    go_wp2_with fail
                    refine wp_region_ord [(0, .pure), (1, .pure), (2, .pure), (3, .pure), (4, .pure), (5, .pure), (6, .quiet), (7, .pure), (8, .quiet), (9, .pure), (10, .pure), (11, .pure)] (by kernel_rfl) (by kernel_rfl)
                      (fun w' => w'.heap[g]? = some (.cells cur 49 (0, 0)) ∧ w'.heap[rb]? = some (.cells r.enc.toArray 54)) ⟨hSb.drew.heap, hS3.drew.heap⟩ ?_
                    iterate 6 (refine ord_pure rfl rfl rfl (fun K' hK => ?_); go_big_quiet_op; refine hK _ ?_; clear hK K')
                    refine ord_load rfl rfl rfl (p := .pointer (some ⟨g, j * 18, none⟩)) (v := .agg x.addr.enc.toArray) (by simp [Act.eval]) (fun w' hC => run_loadAt_row hC.1 Try.underlying46 rfl (by rw [Adr.enc_length]; kernel_rfl) hcx) (fun K' hK => ?_)
                    go_simp
                    refine hK _ ?_
                    clear hK K'
                    iterate 1 (refine ord_pure rfl rfl rfl (fun K' hK => ?_); go_big_quiet_op; refine hK _ ?_; clear hK K')
                    refine ord_load rfl rfl rfl (p := .pointer (some ⟨rb, 4, none⟩)) (v := .agg r.addr.enc.toArray) rfl (fun w' hC => run_loadAt_row hC.2 Try.underlying46 rfl (by rw [Adr.enc_length]; kernel_rfl) (fun j u hu => by simpa using r.at4 j u hu)) (fun K' hK => ?_)
                    go_simp
                    refine hK _ ?_
                    clear hK K'
                    refine ord_eql rfl rfl rfl rfl rfl (by kernel_rfl) (fun w' => adr_eq 9997 x.addr r.addr) (fun K' hK => ?_)
                    go_simp
                    refine hK _ ?_
                    clear hK K'
                    generalize decide (x.addr = r.addr) = q at *
                    iterate 2 (refine ord_pure rfl rfl rfl (fun K' hK => ?_); go_big_quiet_op; refine hK _ ?_; clear hK K')
                    refine ord_nil ?_
                    go_wp2_with fail
                    go_roundw
                    case rel => exact ⟨j + 1, by omega, by go_num, by rw [hnx], hS3.drew⟩
                    case measure => simp [intOf]; omega
                  · have hnx : (b || (fs.take (j + 1)).any fun x => decide (x.addr = r.addr)) = true := by
                      rw [hstep, ← Bool.or_assoc, hq, Bool.true_or]
                    go_wp2_with fail
                    refine wp_region_ord [(0, .pure), (1, .pure), (2, .pure), (3, .pure), (4, .pure), (5, .pure), (6, .pure), (7, .pure), (8, .pure), (9, .pure), (10, .pure), (11, .pure)] (by kernel_rfl) (by kernel_rfl) (fun _ => True) trivial ?_
                    iterate 2 (refine ord_pure rfl rfl rfl (fun K' hK => ?_); go_big_quiet_op; refine hK _ ?_; clear hK K')
                    iterate 8 (rw [wpOrd]; go_simp)
                    iterate 2 (refine ord_pure rfl rfl rfl (fun K' hK => ?_); go_big_quiet_op; refine hK _ ?_; clear hK K')
                    refine ord_nil ?_
                    go_wp2_with fail
                    go_roundw
                    case rel => exact ⟨j + 1, by omega, by go_num, by rw [hnx], hS3.drew⟩
                    case measure => simp [intOf]; omega
              · obtain rfl : j = fs.length := by omega
                rw [List.take_length]
                cases hq : (b || fs.any fun x => decide (x.addr = r.addr))
                · have HN := Lib.hid (HC.out _ hq)
                  rw [if_neg (by simp)] at HN
                  clear hq HC HB hj hjl hnm hfo hlen
                  have hct3 : wr.cell? ⟨rb, 3, none⟩ = some (.int .u32 r.ttl) := by simp [World.cell?, hS3.heap, r.at3]
                  have hl3 : (Instr.loadAt 46 (.pointer (some ⟨rb, 4, none⟩))).run Try.prog wr = .ok (.agg r.addr.enc.toArray) wr :=
                    run_loadAt_row hS3.heap Try.underlying46 rfl (by rw [Adr.enc_length]; kernel_rfl) (fun j u hu => by simpa using r.at4 j u hu)
                  by_cases hmin : r.ttl < tl
                  · rw [if_pos hmin] at HN
                    have hS4 := hS3.pull2.alloc_ (.cells (Fnd.enc ⟨r.addr, r.ttl⟩).toArray 49)
                    obtain ⟨v5, w5, hrun, hS5⟩ := hS4.append (m := 1) (news := Fnd.enc ⟨r.addr, r.ttl⟩) (t := 39) (ty := 39) (P := Try.prog) (x := .slice (some ⟨wr.heap.size, 0, none⟩) 1 1) Try.underlying39 found_zero (by simp [Value.cells, Fnd.enc_length]) (by decide) reads_new (by rw [Fnd.enc_length]) (Fnd.enc_one _) (by unfold maxLen; omega) (by omega)
                    go_wp2_with (first | (refine wpList_load_run (t := 46) rfl rfl rfl hl3 ?_) | (refine wpList_build2_run rfl rfl rfl rfl (found_built r.addr r.ttl) ?_) | (refine wpList_buildSlice_one (v := .agg (Fnd.enc ⟨r.addr, r.ttl⟩).toArray) rfl rfl rfl Try.underlying39 found_zero2 (by simp [Value.cells, Fnd.enc_length]) (by decide) (by decide) ?_) | (at_builtin; refine wpList_append_run rfl _ _ _ rfl rfl rfl hrun (stop_ ?_)))
                    unfold Stop
                    go_wp2_with fail
                    go_roundw
                    case rel => exact ⟨k + 1, by omega, by go_num, by rw [HN.out]; simp; omega, by rw [HN.out]; simpa using hS5.pull2.drop⟩
                    case measure => simp [intOf]; omega
                  · rw [if_neg hmin] at HN
                    have hS4 := hS3.pull2.alloc_ (.cells (Fnd.enc ⟨r.addr, tl⟩).toArray 49)
                    obtain ⟨v5, w5, hrun, hS5⟩ := hS4.append (m := 1) (news := Fnd.enc ⟨r.addr, tl⟩) (t := 39) (ty := 39) (P := Try.prog) (x := .slice (some ⟨wr.heap.size, 0, none⟩) 1 1) Try.underlying39 found_zero (by simp [Value.cells, Fnd.enc_length]) (by decide) reads_new (by rw [Fnd.enc_length]) (Fnd.enc_one _) (by unfold maxLen; omega) (by omega)
                    go_wp2_with (first | (refine wpList_load_run (t := 46) rfl rfl rfl hl3 ?_) | (refine wpList_build2_run rfl rfl rfl rfl (found_built r.addr tl) ?_) | (refine wpList_buildSlice_one (v := .agg (Fnd.enc ⟨r.addr, tl⟩).toArray) rfl rfl rfl Try.underlying39 found_zero2 (by simp [Value.cells, Fnd.enc_length]) (by decide) (by decide) ?_) | (at_builtin; refine wpList_append_run rfl _ _ _ rfl rfl rfl hrun (stop_ ?_)))
                    unfold Stop
                    go_wp2_with fail
                    go_roundw
                    case rel => exact ⟨k + 1, by omega, by go_num, by rw [HN.out]; simp; omega, by rw [HN.out]; simpa using hS5.pull2.drop⟩
                    case measure => simp [intOf]; omega
                · have HN := Lib.hid (HC.out _ hq)
                  rw [if_pos rfl] at HN
                  clear hq HC HB hj hjl hnm hfo hlen
                  go_wp2_with fail
                  go_roundw
                  case rel => exact ⟨k + 1, by omega, by go_num, by rw [HN.out]; omega, by rw [HN.out]; exact hS3.drop⟩
                  case measure => simp [intOf]; omega
        · obtain rfl : k = l.length := by omega
          rw [List.take_length] at hS
          go_wp2_with fail
          go_ret2
          refine ⟨_, _, rfl, ?_⟩
          rw [HF.out]
          exact hS.pull2.drop
    case some r =>
      simp only [Option.getD_some, Option.isSome_some]
      have h3 := r.at3
      have h21 := r.at21
      have hS3 := hS2.alloc (.cells r.enc.toArray 54)
      have hct : (w2.alloc (.cells r.enc.toArray 54)).cell? ⟨w2.heap.size, 21, none⟩ = some (.string r.tgt) := by rw [cell_new]; simpa using h21
      have hna : NamesAt (w2.alloc (.cells r.enc.toArray 54)) _ names := ⟨by rw [← List.length_map (f := Value.string)]; exact (by simpa using hS3.pull3.arr_reads), by omega⟩
      obtain ⟨A6, c6, rfl⟩ := hS3.pull3.arr_form
      go_wp2_with (first | (refine wpList_store_run rfl rfl rfl rfl (hst _ _ _ rfl) ?_))
      refine (in_any names r.tgt _ _ hna).mono ?_
      rintro e w3 ⟨rfl, hb3⟩
      have hS3 := hS3.below_ hb3
      cases hhn : hasName names r.tgt
      · by_cases h16 : 16 ≤ names.length
        · have h16i : (16 : Int) ≤ (names.length : Int) := by omega
          have hfin := hfo.trans (follow_stop hnx (.inr h16))
          have HF := Lib.hid hfin
          clear hfin hfo hnx
          go_wp2_with fail
          go_ret2
          refine ⟨_, _, rfl, ?_⟩
          rw [HF.out]
          exact arr_nil (arr_nil hS3.emp_)
        · have h16i : (names.length : Int) < 16 := by omega
          have hfin := hfo.trans (follow_go hnx hhn h16)
          have HF := Lib.hid hfin
          clear hfin hfo hnx
          obtain ⟨k', rfl⟩ : ∃ k', k = k' + 1 := ⟨k - 1, by omega⟩
          have hct3 : w3.cell? ⟨w2.heap.size, 21, none⟩ = some (.string r.tgt) := by simp [World.cell?, hS3.heap, h21]
          have hcu3 : w3.cell? ⟨w2.heap.size, 3, none⟩ = some (.int .u32 r.ttl) := by simp [World.cell?, hS3.heap, h3]
          by_cases hmin : r.ttl < tl
          · rw [if_pos hmin] at HF
            have hS4 := hS3.drew.pull3.alloc_ (.cells #[.string r.tgt] 9)
            obtain ⟨v5, w5, hrun, hS5⟩ := hS4.append (m := 1) (news := [.string r.tgt]) (t := 40) (ty := 40) (P := Try.prog) (x := .slice (some ⟨w3.drew.heap.size, 0, none⟩) 1 1) Try.underlying40 string_zero (by decide) (by decide) reads_new rfl (by simp [Value.oneCell']) (by unfold maxLen; omega) (by omega)
            go_wp2_with fail
            refine wp_region_ord [(0, .pure), (1, .quiet), (2, .pure), (3, .pure), (4, .quiet), (5, .pure), (6, .pure), (7, .pure)] (by kernel_rfl) (by kernel_rfl) (fun w' => w'.heap[w2.heap.size]? = some (.cells r.enc.toArray 54)) hS3.heap ?_
            iterate 1 (refine ord_pure rfl rfl rfl (fun K' hK => ?_); go_big_quiet_op; refine hK _ ?_; clear hK K')
            refine ord_load rfl rfl rfl (p := .pointer (some ⟨w2.heap.size, 21, none⟩)) (v := .string r.tgt) rfl (fun w' hC => run_loadAt_one hC Try.underlying9 rfl (by simpa using h21)) (fun K' hK => ?_)
            go_simp
            refine hK _ ?_
            clear hK K'
            iterate 2 (refine ord_pure rfl rfl rfl (fun K' hK => ?_); go_big_quiet_op; refine hK _ ?_; clear hK K')
            refine ord_load rfl rfl rfl (p := .pointer (some ⟨w2.heap.size, 3, none⟩)) (v := .int .u32 r.ttl) rfl (fun w' hC => run_loadAt_one hC Try.underlying47 rfl (by simpa using h3)) (fun K' hK => ?_)
            go_simp
            refine hK _ ?_
            clear hK K'
            refine ord_run (v := .int .u32 r.ttl) rfl rfl (fun w' => by go_simp) (fun K' hK => ?_)
            go_simp
            refine hK _ ?_
            clear hK K'
            iterate 2 (refine ord_pure rfl rfl rfl (fun K' hK => ?_); go_big_quiet_op; refine hK _ ?_; clear hK K')
            refine ord_nil ?_
            go_wp2_with (first | (at_builtin; refine wpList_append_run rfl _ _ _ rfl rfl rfl hrun ?_))
            go_roundw
            case rel =>
             exact ⟨k', names ++ [r.tgt], r.tgt, r.ttl, rfl, rfl, by simp; omega, by simpa using hS5.pull2.drop.pull2, by simpa using HF.out⟩
            case measure => obtain ⟨A5, c5, rfl⟩ := hS5.arr_form; simp [lenOf']; omega
          · rw [if_neg hmin] at HF
            have hmin2 : tl ≤ r.ttl := by omega
            have hS4 := hS3.drew.pull3.alloc_ (.cells #[.string r.tgt] 9)
            obtain ⟨v5, w5, hrun, hS5⟩ := hS4.append (m := 1) (news := [.string r.tgt]) (t := 40) (ty := 40) (P := Try.prog) (x := .slice (some ⟨w3.drew.heap.size, 0, none⟩) 1 1) Try.underlying40 string_zero (by decide) (by decide) reads_new rfl (by simp [Value.oneCell']) (by unfold maxLen; omega) (by omega)
            go_wp2_with fail
            refine wp_region_ord [(0, .pure), (1, .quiet), (2, .pure), (3, .pure), (4, .quiet), (5, .pure), (6, .pure), (7, .pure)] (by kernel_rfl) (by kernel_rfl) (fun w' => w'.heap[w2.heap.size]? = some (.cells r.enc.toArray 54)) hS3.heap ?_
            iterate 1 (refine ord_pure rfl rfl rfl (fun K' hK => ?_); go_big_quiet_op; refine hK _ ?_; clear hK K')
            refine ord_load rfl rfl rfl (p := .pointer (some ⟨w2.heap.size, 21, none⟩)) (v := .string r.tgt) rfl (fun w' hC => run_loadAt_one hC Try.underlying9 rfl (by simpa using h21)) (fun K' hK => ?_)
            go_simp
            refine hK _ ?_
            clear hK K'
            iterate 2 (refine ord_pure rfl rfl rfl (fun K' hK => ?_); go_big_quiet_op; refine hK _ ?_; clear hK K')
            refine ord_load rfl rfl rfl (p := .pointer (some ⟨w2.heap.size, 3, none⟩)) (v := .int .u32 r.ttl) rfl (fun w' hC => run_loadAt_one hC Try.underlying47 rfl (by simpa using h3)) (fun K' hK => ?_)
            go_simp
            refine hK _ ?_
            clear hK K'
            refine ord_run (v := .int .u32 tl) rfl rfl (fun w' => by go_simp; omega) (fun K' hK => ?_)
            go_simp
            refine hK _ ?_
            clear hK K'
            iterate 2 (refine ord_pure rfl rfl rfl (fun K' hK => ?_); go_big_quiet_op; refine hK _ ?_; clear hK K')
            refine ord_nil ?_
            go_wp2_with (first | (at_builtin; refine wpList_append_run rfl _ _ _ rfl rfl rfl hrun ?_))
            go_roundw
            case rel => exact ⟨k', names ++ [r.tgt], r.tgt, tl, rfl, rfl, by simp; omega, by simpa using hS5.pull2.drop.pull2, by simpa using HF.out⟩
            case measure => obtain ⟨A5, c5, rfl⟩ := hS5.arr_form; simp [lenOf']; omega
      · have hfin := hfo.trans (follow_stop hnx (.inl hhn))
        have HF := Lib.hid hfin
        clear hfin hfo hnx
        go_wp2_with fail
        go_ret2
        refine ⟨_, _, rfl, ?_⟩
        rw [HF.out]
        exact arr_nil (arr_nil hS3.emp_)
end Go.Proofs.Ytepaanpdjadakaa
