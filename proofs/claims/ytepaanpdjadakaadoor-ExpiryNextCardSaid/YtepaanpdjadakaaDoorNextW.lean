import Derived.Test.YtepaanpdjadakaaDoorDueW
import Derived.Lib.MinMax
/-! ExpiryNext's walk. -/
namespace Go.Proofs.YtepaanpdjadakaaDoor
open Go Go.RowKit

theorem dueL_cons {k : Nat} {S : List Ent} {now : Int} {x : Ent} {rest : List Ent} (h : (dueL (k + 1) S now).1 = x :: rest) : minE S = some x ∧ (dueL k (without S x.id) now).1 = rest := by
  by_cases hs : ∃ m, minE S = some m ∧ ¬ now < m.due
  · obtain ⟨m, hm, hd⟩ := hs
    rw [dueL_go hm hd] at h
    injection h with h1 h2
    subst h1
    exact ⟨hm, h2⟩
  · have hs' : ∀ m, minE S = some m → now < m.due := fun m hm => by
      by_cases hd : now < m.due
      · exact hd
      · exact absurd ⟨m, hm, hd⟩ hs
    rw [dueL_stop hs'] at h
    cases h
attribute [local irreducible] wpOrd
set_option maxRecDepth 8000 in
set_option maxHeartbeats 8000000 in
theorem next_any (a0 : Option Addr) (len0 cap0 : Nat) (z0 : List Int) (w : World) (w0 : IsRow .u64 w a0 len0 cap0 z0) (hE : Et w) :
    Calls Tryd.prog 4 #[.slice a0 len0 cap0] w fun e w' => e = .returned (.bool true) ∧ Below w.heap.size w w' := by
  have hlen := w0.len_le
  unfold maxLen at hlen
  have e0 : errV 0 = .nilIface := rfl
  have c1 := qNew_any 100 (Sat.start w)
  rw [show roomOf 100 = 100 by decide] at c1
  go_enter Tryd.func4, Tryd.ntmps4
  go_wp2_with fail
  refine c1.mono ?_
  rintro e w1 ⟨q, rfl, hS1⟩
  have c2 := qNew_any 100 hS1
  rw [show roomOf 100 = 100 by decide] at c2
  clear c1
  go_wp2_with fail
  refine c2.mono ?_
  rintro e w2 ⟨r, rfl, hS2⟩
  clear c2 hS1
  go_wp2_with fail
  refine (awake17_any _ (hS2.et hE.pos hE)).mono ?_
  rintro e w3 ⟨rfl, hb3⟩
  have hS3 := hS2.below_ hb3
  clear hS2 hb3
  go_wp2_with fail
  go_loopw [5] (fun i wr => ∃ k : Nat, k ≤ len0 ∧ k ≤ 80 ∧ i = .int .i64 k ∧ Sat w.heap.size w wr (queue r 100 (entsOf z0 k) • queue q 100 (entsOf z0 k) • emp)) (fun i _ => len0 - (intOf i).toNat)
  case atStart => exact ⟨0, Nat.zero_le _, by omega, rfl, hS3⟩
  case round =>
    clear hS3
    obtain ⟨k, hk, hk80, rfl, hS⟩ := hrel
    by_cases hlt : k < len0 ∧ k < 80
    · obtain ⟨hl1, hl2⟩ := hlt
      obtain ⟨x, rfl, hxl, hxw⟩ := w0.at' hl1
      have hc := hxw _ hS.below
      obtain ⟨p1, p2⟩ := ents_push (room := 100) z0 k (by omega)
      have c2 := qPush_any hS.pull2 (hS.et hE.pos hE) k (z0.getD k 0)
      rw [p1, p2, e0] at c2
      have P1 := Lib.hid p1
      have P2 := Lib.hid p2
      clear p1 p2
      generalize hz : z0.getD k 0 = z at *
      clear hz
      go_wp2_with fail
      refine c2.mono ?_
      rintro e w4 ⟨rfl, hS4⟩
      have hc4 := hxw _ hS4.below
      have c3 := qPush_any hS4.pull2 (hS4.et hE.pos hE) k z
      rw [P1.out, P2.out, e0] at c3
      clear c2 hS hc
      go_wp2_with fail
      refine c3.mono ?_
      rintro e w5 ⟨rfl, hS5⟩
      clear c3 hS4 hc4
      go_wp2_with fail
      go_roundw
      case rel => exact ⟨k + 1, by omega, by omega, by go_num, hS5⟩
      case measure => simp [intOf]; omega
    · have hn : ∃ n, k = n ∧ (n : Int) = min (len0 : Int) 80 := ⟨k, rfl, by omega⟩
      obtain ⟨n, rfl, hn⟩ := hn
      have HN := Lib.hid hn
      have hstop : (len0 : Int) ≤ k ∨ ((k : Int) < len0 ∧ (80 : Int) ≤ k) := by omega
      obtain ⟨sp1, sp2, sp3, sp4⟩ := dueL_spec (entsOf z0 k).length (entsOf z0 k) 18446744073709551615 (Nat.le_refl _) (ents_nd z0 k)
      have hR0 : (dueL (entsOf z0 k).length (entsOf z0 k) 18446744073709551615).2 = [] := by
        cases hR : (dueL (entsOf z0 k).length (entsOf z0 k) 18446744073709551615).2 with
        | nil => rfl
        | cons y ys =>
          exfalso
          have hy := sp3 y (by rw [hR]; simp)
          have hm : y ∈ entsOf z0 k := sp1.mem_iff.1 (List.mem_append_right _ (by rw [hR]; exact List.mem_cons_self))
          obtain ⟨i, hi, rfl⟩ := mem_ents.1 hm
          obtain ⟨_, _, _, _, hwf⟩ := w0.at_ (i := i) (by omega)
          have := (wf_u64' hwf).2
          simp only at hy
          omega
      have hDl : (dueL (entsOf z0 k).length (entsOf z0 k) 18446744073709551615).1.length = k := by
        have := sp1.length_eq
        rw [hR0, List.append_nil] at this
        exact this.trans (entsOf_length _ _)
      have hD0 : ∀ j, (entsOf z0 k).length ≤ j → (dueL j (entsOf z0 k) 18446744073709551615).1 = (dueL (entsOf z0 k).length (entsOf z0 k) 18446744073709551615).1.drop 0 := by
        intro j hj; rw [dueL_fuel j _ _ _ hj (Nat.le_refl _)]; rfl
      have c2 := qDue_any hS 18446744073709551615
      rw [hR0, hDl] at c2
      have hel := entsOf_length z0 k
      generalize (dueL (entsOf z0 k).length (entsOf z0 k) 18446744073709551615).1 = D at *
      generalize entsOf z0 k = S at *
      have HDl := Lib.hid hDl
      have HD0 := Lib.hid hD0
      have HEL := Lib.hid hel
      clear hDl hD0 hel sp1 sp2 sp3 sp4 hR0
      rcases hstop with hst | ⟨hst, hst'⟩
      · go_wp2_with fail
        refine c2.mono ?_
        rintro e w4 ⟨v, rfl, hS4⟩
        obtain ⟨A, c, rfl⟩ := hS4.arr_form
        clear c2 hS
        go_wp2_with fail
        go_loopw [7] (fun i wr => ∃ (k2 : Nat) (S' : List Ent), k2 ≤ k ∧ i = .int .i64 k2 ∧ Sat w.heap.size w wr (queue q 100 S' • arr 34 2 (.slice A k c) k (D.flatMap Ent.enc) • emp) ∧ Hid (S'.length + k2 = k ∧ ∀ j, S'.length ≤ j → (dueL j S' 18446744073709551615).1 = D.drop k2)) (fun i _ => k - (intOf i).toNat)
        case atStart => exact ⟨0, S, Nat.zero_le _, rfl, (hS4.to (by ac_rfl : _ = queue r 100 [] • queue q 100 S • arr 34 2 (.slice A k c) k (D.flatMap Ent.enc) • emp)).drop, Lib.hid ⟨HEL.out, HD0.out⟩⟩
        case round =>
          clear hS4
          obtain ⟨k2, S', hk2, rfl, hS, HK⟩ := hrel
          have hnd := hS.queue_nd
          by_cases hlt2 : k2 < k
          · have hkl : k2 < D.length := by rw [HDl.out]; exact hlt2
            obtain ⟨hs1, hs2⟩ := HK.out
            have hd1 : (dueL (S'.length + 1) S' 18446744073709551615).1 = Hp.g D k2 :: D.drop (k2 + 1) := by
              rw [hs2 _ (by omega), List.drop_eq_getElem_cons hkl]
              congr 1
              rw [← Option.some_inj, ← g_get hkl, List.getElem?_eq_getElem hkl]
            obtain ⟨hm, _⟩ := dueL_cons hd1
            have hnext : ∀ j, (without S' (Hp.g D k2).id).length ≤ j → (dueL j (without S' (Hp.g D k2).id) 18446744073709551615).1 = D.drop (k2 + 1) := by
              intro j hj
              have hd2 : (dueL (S'.length + j + 1) S' 18446744073709551615).1 = Hp.g D k2 :: D.drop (k2 + 1) := by
                rw [dueL_fuel _ (S'.length + 1) _ _ (by omega) (by omega)]; exact hd1
              rw [dueL_fuel j (S'.length + j) _ _ hj (by have := without_length S' (Hp.g D k2).id; omega)]
              exact (dueL_cons hd2).2
            have hmm := (minE_mem hm).1
            have hwl : (without S' (Hp.g D k2).id).length + (k2 + 1) = k := by
              have := (without_perm_of hnd hmm).length_eq
              simp only [List.length_cons] at this
              omega
            have hnv : nextV S' = .tuple #[.agg (Hp.g D k2).enc.toArray, .bool true] := by unfold nextV; rw [hm]
            have hda := dueAt_of hnd hmm
            have hnc : noneC S' (Hp.g D k2).id = 0 := noneC_yes (by unfold hasId; rw [List.any_eq_true]; exact ⟨_, hmm, by simp⟩)
            rcases hS.pull2.arr_open with ⟨_, h0, _, _⟩ | ⟨g, cap, cur, hv, r1, r2, r3, r4, hSb⟩
            · omega
            simp only [Value.slice.injEq] at hv
            obtain ⟨rfl, _, rfl⟩ := hv
            have r4' : cur.toList.take (D.length * 2) = D.flatMap Ent.enc := by rw [HDl.out]; exact r4
            have c3 := qNext_any hSb.pull2
            rw [hnv] at c3
            have HNX := Lib.hid hnext
            have HWL := Lib.hid hwl
            have HDA := Lib.hid hda
            have HNC := Lib.hid hnc
            have R4 := Lib.hid r4'
            have R4b := Lib.hid r4
            have HKL := Lib.hid hkl
            clear hnext hwl hda hnc hnv hmm hm hd1 hs1 hs2 r4 r4' hnd hkl hS
            generalize hgx : Hp.g D k2 = x at *
            have HGX := Lib.hid hgx
            clear hgx
            obtain ⟨xi, xd⟩ := x
            have hq : ∀ w, (Op.equalIn 10000 34 (.agg #[.int .i64 xi, .int .u64 xd]) (.agg #[.int .i64 xi, .int .u64 xd])).run Tryd.prog w = .ok true w := fun w => by
              have := ent_eq (w := w) 9998 ⟨xi, xd⟩ ⟨xi, xd⟩
              simpa [EqV, Ent.enc] using this
            have hgd := ent_guard
            simp only [Ent.enc] at c3
            go_wp2_with fail
            refine c3.mono ?_
            rintro e w5 ⟨rfl, hb5⟩
            have hX := (hSb.below_ hb5).alloc (.cells #[.int .i64 xi, .int .u64 xd] 34)
            have c4 := qAt_any hX.pull3 xi
            rw [HDA.out] at c4
            clear c3 hSb
            go_wp2_with fail
            refine c4.mono ?_
            rintro e w6 ⟨rfl, rfl⟩
            clear c4
            generalize hWW : w5.alloc (.cells #[.int .i64 xi, .int .u64 xd] 34) = W at *
            clear hWW
            have hX' := hX.drew
            clear hX
            go_wp2_with fail
            try go_frame
            refine wp_region_ord [(0, .pure), (1, .pure), (2, .pure), (3, .quiet), (4, .pure), (5, .pure), (6, .pure), (7, .quiet), (8, .pure), (9, .pure), (10, .pure), (11, .pure), (12, .pure), (13, .pure), (14, .pure), (15, .pure), (16, .pure), (17, .quiet), (18, .pure), (19, .pure), (20, .pure), (21, .pure), (22, .pure), (23, .quiet), (24, .seals), (25, .pure), (26, .pure)] (by kernel_rfl) (by kernel_rfl)
              (fun w' => Sat w.heap.size w w' (blk w5.heap.size (.cells #[.int .i64 xi, .int .u64 xd] 34) • blk g (.cells cur 34 (0, 0)) • queue q 100 S' • emp)) hX' ?_
            iterate 3 (refine ord_pure rfl rfl rfl (fun K' hK => ?_); go_big_quiet_op; refine hK _ ?_; clear hK K')
            refine ord_load (t := 34) rfl rfl rfl (p := .pointer (some ⟨w5.heap.size, 0, none⟩)) (v := .agg #[.int .i64 xi, .int .u64 xd]) rfl (fun w' hC => run_loadAt_row (cs := [.int .i64 xi, .int .u64 xd]) hC.heap Tryd.underlying34 rfl (by kernel_rfl) (fun j u hu => by simpa using hu)) (fun K' hK => ?_)
            go_simp
            refine hK _ ?_
            clear hK K'
            iterate 3 (refine ord_pure rfl rfl rfl (fun K' hK => ?_); go_big_quiet_op; refine hK _ ?_; clear hK K')
            refine ord_load (t := 34) rfl rfl rfl (p := .pointer (some ⟨g, k2 * 2, none⟩)) (v := .agg #[.int .i64 xi, .int .u64 xd]) rfl (fun w' hC => by have := ent_load (L := D) (i := k2) hC.pull2.heap R4.out HKL.out; rw [HGX.out] at this; exact this) (fun K' hK => ?_)
            go_simp
            refine hK _ ?_
            clear hK K'
            iterate 9 (refine ord_pure rfl rfl rfl (fun K' hK => ?_); go_big_quiet_op; refine hK _ ?_; clear hK K')
            refine ord_load (t := 23) rfl rfl rfl (p := .pointer (some ⟨w5.heap.size, 1, none⟩)) (v := .int .u64 xd) rfl (fun w' hC => run_loadAt_one hC.heap Tryd.underlying23 rfl rfl) (fun K' hK => ?_)
            go_simp
            refine hK _ ?_
            clear hK K'
            iterate 5 (refine ord_pure rfl rfl rfl (fun K' hK => ?_); go_big_quiet_op; refine hK _ ?_; clear hK K')
            refine ord_load (t := 3) rfl rfl rfl (p := .pointer (some ⟨w5.heap.size, 0, none⟩)) (v := .int .i64 xi) rfl (fun w' hC => run_loadAt_one hC.heap Tryd.underlying3 rfl rfl) (fun K' hK => ?_)
            go_simp
            refine hK _ ?_
            clear hK K'
            have c5 := qCancel_any hX'.pull3 xi
            rw [HNC.out, e0] at c5
            refine ord_seals rfl rfl (fun K' hK => ?_)
            go_simp
            refine c5.mono ?_
            rintro e w7 ⟨rfl, hZ⟩
            clear c5
            refine hK (fun _ => True) _ _ trivial ?_
            clear hK K'
            go_simp
            iterate 2 (refine ord_pure rfl rfl rfl (fun K' hK => ?_); go_big_quiet_op; refine hK _ ?_; clear hK K')
            refine ord_nil ?_
            go_wp2_with fail
            go_roundw
            case rel =>
              refine ⟨k2 + 1, without S' xi, by omega, by go_num, ?_, Lib.hid ⟨HWL.out, HNX.out⟩⟩
              have hY := hZ.to (show _ = blk w5.heap.size (.cells #[.int .i64 xi, .int .u64 xd] 34) • blk g (.cells cur 34 (0, 0)) • queue q 100 (without S' xi) • emp by ac_rfl)
              exact (Sat.arr_shut r1 r2 r3 R4b.out hY.drop).pull2
            case measure => simp [intOf]; omega
          · obtain rfl : k2 = k := by omega
            obtain ⟨hs1, _⟩ := HK.out
            obtain rfl : S' = [] := List.eq_nil_of_length_eq_zero (by omega)
            have c3 := qNext_any hS
            rw [show nextV [] = .tuple #[.agg #[.int .i64 0, .int .u64 0], .bool false] from rfl] at c3
            have hmn : ((k2 : Int) == min (len0 : Int) 80) = true := by rw [beq_iff_eq]; exact HN.out
            clear hs1 hnd
            go_wp2_with fail
            refine c3.mono ?_
            rintro e w5 ⟨rfl, hb5⟩
            have hS5 := (hS.below_ hb5).alloc_ (.cells #[.int .i64 0, .int .u64 0] 34)
            have c5 := qLen_any hS5
            rw [show (([] : List Ent).length : Int) = 0 from rfl] at c5
            clear c3 hS
            go_wp2_with fail
            refine c5.mono ?_
            rintro e w6 ⟨rfl, rfl⟩
            go_wp2_with fail
            go_ret
            exact ⟨rfl, hS5.below⟩
      · go_wp2_with fail
        refine c2.mono ?_
        rintro e w4 ⟨v, rfl, hS4⟩
        obtain ⟨A, c, rfl⟩ := hS4.arr_form
        clear c2 hS
        go_wp2_with fail
        go_loopw [7] (fun i wr => ∃ (k2 : Nat) (S' : List Ent), k2 ≤ k ∧ i = .int .i64 k2 ∧ Sat w.heap.size w wr (queue q 100 S' • arr 34 2 (.slice A k c) k (D.flatMap Ent.enc) • emp) ∧ Hid (S'.length + k2 = k ∧ ∀ j, S'.length ≤ j → (dueL j S' 18446744073709551615).1 = D.drop k2)) (fun i _ => k - (intOf i).toNat)
        case atStart => exact ⟨0, S, Nat.zero_le _, rfl, (hS4.to (by ac_rfl : _ = queue r 100 [] • queue q 100 S • arr 34 2 (.slice A k c) k (D.flatMap Ent.enc) • emp)).drop, Lib.hid ⟨HEL.out, HD0.out⟩⟩
        case round =>
          clear hS4
          obtain ⟨k2, S', hk2, rfl, hS, HK⟩ := hrel
          have hnd := hS.queue_nd
          by_cases hlt2 : k2 < k
          · have hkl : k2 < D.length := by rw [HDl.out]; exact hlt2
            obtain ⟨hs1, hs2⟩ := HK.out
            have hd1 : (dueL (S'.length + 1) S' 18446744073709551615).1 = Hp.g D k2 :: D.drop (k2 + 1) := by
              rw [hs2 _ (by omega), List.drop_eq_getElem_cons hkl]
              congr 1
              rw [← Option.some_inj, ← g_get hkl, List.getElem?_eq_getElem hkl]
            obtain ⟨hm, _⟩ := dueL_cons hd1
            have hnext : ∀ j, (without S' (Hp.g D k2).id).length ≤ j → (dueL j (without S' (Hp.g D k2).id) 18446744073709551615).1 = D.drop (k2 + 1) := by
              intro j hj
              have hd2 : (dueL (S'.length + j + 1) S' 18446744073709551615).1 = Hp.g D k2 :: D.drop (k2 + 1) := by
                rw [dueL_fuel _ (S'.length + 1) _ _ (by omega) (by omega)]; exact hd1
              rw [dueL_fuel j (S'.length + j) _ _ hj (by have := without_length S' (Hp.g D k2).id; omega)]
              exact (dueL_cons hd2).2
            have hmm := (minE_mem hm).1
            have hwl : (without S' (Hp.g D k2).id).length + (k2 + 1) = k := by
              have := (without_perm_of hnd hmm).length_eq
              simp only [List.length_cons] at this
              omega
            have hnv : nextV S' = .tuple #[.agg (Hp.g D k2).enc.toArray, .bool true] := by unfold nextV; rw [hm]
            have hda := dueAt_of hnd hmm
            have hnc : noneC S' (Hp.g D k2).id = 0 := noneC_yes (by unfold hasId; rw [List.any_eq_true]; exact ⟨_, hmm, by simp⟩)
            rcases hS.pull2.arr_open with ⟨_, h0, _, _⟩ | ⟨g, cap, cur, hv, r1, r2, r3, r4, hSb⟩
            · omega
            simp only [Value.slice.injEq] at hv
            obtain ⟨rfl, _, rfl⟩ := hv
            have r4' : cur.toList.take (D.length * 2) = D.flatMap Ent.enc := by rw [HDl.out]; exact r4
            have c3 := qNext_any hSb.pull2
            rw [hnv] at c3
            have HNX := Lib.hid hnext
            have HWL := Lib.hid hwl
            have HDA := Lib.hid hda
            have HNC := Lib.hid hnc
            have R4 := Lib.hid r4'
            have R4b := Lib.hid r4
            have HKL := Lib.hid hkl
            clear hnext hwl hda hnc hnv hmm hm hd1 hs1 hs2 r4 r4' hnd hkl hS
            generalize hgx : Hp.g D k2 = x at *
            have HGX := Lib.hid hgx
            clear hgx
            obtain ⟨xi, xd⟩ := x
            have hq : ∀ w, (Op.equalIn 10000 34 (.agg #[.int .i64 xi, .int .u64 xd]) (.agg #[.int .i64 xi, .int .u64 xd])).run Tryd.prog w = .ok true w := fun w => by
              have := ent_eq (w := w) 9998 ⟨xi, xd⟩ ⟨xi, xd⟩
              simpa [EqV, Ent.enc] using this
            have hgd := ent_guard
            simp only [Ent.enc] at c3
            go_wp2_with fail
            refine c3.mono ?_
            rintro e w5 ⟨rfl, hb5⟩
            have hX := (hSb.below_ hb5).alloc (.cells #[.int .i64 xi, .int .u64 xd] 34)
            have c4 := qAt_any hX.pull3 xi
            rw [HDA.out] at c4
            clear c3 hSb
            go_wp2_with fail
            refine c4.mono ?_
            rintro e w6 ⟨rfl, rfl⟩
            clear c4
            generalize hWW : w5.alloc (.cells #[.int .i64 xi, .int .u64 xd] 34) = W at *
            clear hWW
            have hX' := hX.drew
            clear hX
            go_wp2_with fail
            try go_frame
            refine wp_region_ord [(0, .pure), (1, .pure), (2, .pure), (3, .quiet), (4, .pure), (5, .pure), (6, .pure), (7, .quiet), (8, .pure), (9, .pure), (10, .pure), (11, .pure), (12, .pure), (13, .pure), (14, .pure), (15, .pure), (16, .pure), (17, .quiet), (18, .pure), (19, .pure), (20, .pure), (21, .pure), (22, .pure), (23, .quiet), (24, .seals), (25, .pure), (26, .pure)] (by kernel_rfl) (by kernel_rfl)
              (fun w' => Sat w.heap.size w w' (blk w5.heap.size (.cells #[.int .i64 xi, .int .u64 xd] 34) • blk g (.cells cur 34 (0, 0)) • queue q 100 S' • emp)) hX' ?_
            iterate 3 (refine ord_pure rfl rfl rfl (fun K' hK => ?_); go_big_quiet_op; refine hK _ ?_; clear hK K')
            refine ord_load (t := 34) rfl rfl rfl (p := .pointer (some ⟨w5.heap.size, 0, none⟩)) (v := .agg #[.int .i64 xi, .int .u64 xd]) rfl (fun w' hC => run_loadAt_row (cs := [.int .i64 xi, .int .u64 xd]) hC.heap Tryd.underlying34 rfl (by kernel_rfl) (fun j u hu => by simpa using hu)) (fun K' hK => ?_)
            go_simp
            refine hK _ ?_
            clear hK K'
            iterate 3 (refine ord_pure rfl rfl rfl (fun K' hK => ?_); go_big_quiet_op; refine hK _ ?_; clear hK K')
            refine ord_load (t := 34) rfl rfl rfl (p := .pointer (some ⟨g, k2 * 2, none⟩)) (v := .agg #[.int .i64 xi, .int .u64 xd]) rfl (fun w' hC => by have := ent_load (L := D) (i := k2) hC.pull2.heap R4.out HKL.out; rw [HGX.out] at this; exact this) (fun K' hK => ?_)
            go_simp
            refine hK _ ?_
            clear hK K'
            iterate 9 (refine ord_pure rfl rfl rfl (fun K' hK => ?_); go_big_quiet_op; refine hK _ ?_; clear hK K')
            refine ord_load (t := 23) rfl rfl rfl (p := .pointer (some ⟨w5.heap.size, 1, none⟩)) (v := .int .u64 xd) rfl (fun w' hC => run_loadAt_one hC.heap Tryd.underlying23 rfl rfl) (fun K' hK => ?_)
            go_simp
            refine hK _ ?_
            clear hK K'
            iterate 5 (refine ord_pure rfl rfl rfl (fun K' hK => ?_); go_big_quiet_op; refine hK _ ?_; clear hK K')
            refine ord_load (t := 3) rfl rfl rfl (p := .pointer (some ⟨w5.heap.size, 0, none⟩)) (v := .int .i64 xi) rfl (fun w' hC => run_loadAt_one hC.heap Tryd.underlying3 rfl rfl) (fun K' hK => ?_)
            go_simp
            refine hK _ ?_
            clear hK K'
            have c5 := qCancel_any hX'.pull3 xi
            rw [HNC.out, e0] at c5
            refine ord_seals rfl rfl (fun K' hK => ?_)
            go_simp
            refine c5.mono ?_
            rintro e w7 ⟨rfl, hZ⟩
            clear c5
            refine hK (fun _ => True) _ _ trivial ?_
            clear hK K'
            go_simp
            iterate 2 (refine ord_pure rfl rfl rfl (fun K' hK => ?_); go_big_quiet_op; refine hK _ ?_; clear hK K')
            refine ord_nil ?_
            go_wp2_with fail
            go_roundw
            case rel =>
              refine ⟨k2 + 1, without S' xi, by omega, by go_num, ?_, Lib.hid ⟨HWL.out, HNX.out⟩⟩
              have hY := hZ.to (show _ = blk w5.heap.size (.cells #[.int .i64 xi, .int .u64 xd] 34) • blk g (.cells cur 34 (0, 0)) • queue q 100 (without S' xi) • emp by ac_rfl)
              exact (Sat.arr_shut r1 r2 r3 R4b.out hY.drop).pull2
            case measure => simp [intOf]; omega
          · obtain rfl : k2 = k := by omega
            obtain ⟨hs1, _⟩ := HK.out
            obtain rfl : S' = [] := List.eq_nil_of_length_eq_zero (by omega)
            have c3 := qNext_any hS
            rw [show nextV [] = .tuple #[.agg #[.int .i64 0, .int .u64 0], .bool false] from rfl] at c3
            have hmn : ((k2 : Int) == min (len0 : Int) 80) = true := by rw [beq_iff_eq]; exact HN.out
            clear hs1 hnd
            go_wp2_with fail
            refine c3.mono ?_
            rintro e w5 ⟨rfl, hb5⟩
            have hS5 := (hS.below_ hb5).alloc_ (.cells #[.int .i64 0, .int .u64 0] 34)
            have c5 := qLen_any hS5
            rw [show (([] : List Ent).length : Int) = 0 from rfl] at c5
            clear c3 hS
            go_wp2_with fail
            refine c5.mono ?_
            rintro e w6 ⟨rfl, rfl⟩
            go_wp2_with fail
            go_ret
            exact ⟨rfl, hS5.below⟩
end Go.Proofs.YtepaanpdjadakaaDoor
