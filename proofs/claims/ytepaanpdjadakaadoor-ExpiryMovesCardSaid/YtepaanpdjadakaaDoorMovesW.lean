import Derived.Test.YtepaanpdjadakaaDoorBaseQ
import Derived.Test.YtepaanpdjadakaaDoorDueW
import Derived.Test.YtepaanpdjadakaaDoorRow
import Derived.Lib.MinMax
/-! ExpiryMoves' walk. -/
namespace Go.Proofs.YtepaanpdjadakaaDoor
open Go Go.RowKit

theorem IsRow.reads {k : IntKind} {w : World} {a : Option Addr} {len cap : Nat} {zs : List Int} (h : IsRow k w a len cap zs) {n : Nat} (hn : n ≤ len) (W : World) (hb : Below w.heap.size w W) :
    Reads W (.slice a n cap) n (((List.range n).map fun j => zs.getD j 0).flatMap (intC k)) := by
  have key : ∀ (f : Nat → Int) (j : Nat) (u : Value), (((List.range n).map f).flatMap (intC k))[j]? = some u → j < n ∧ u = .int k (f j) := by
    intro f j u hu
    obtain ⟨i, r, x, e1, e2, e3, e4⟩ := flat_split' (intC_length k) (by decide) hu
    have : r = 0 := by omega
    subst this
    have : j = i := by omega
    subst this
    have hj : j < n := by have := (List.getElem?_eq_some_iff.1 e3).1; simpa using this
    rw [List.getElem?_map, List.getElem?_range hj] at e3
    cases e3
    refine ⟨hj, ?_⟩
    simp [intC] at e4
    exact e4.symm
  rcases h with ⟨rfl, rfl, rfl, rfl⟩ | ⟨x, rfl, h1, h2, h3, h4, h5⟩
  · obtain rfl : n = 0 := by omega
    exact .inl ⟨0, rfl, rfl, rfl⟩
  · refine .inr ⟨x, cap, rfl, fun j u hu => ?_⟩
    obtain ⟨hj, rfl⟩ := key _ j u hu
    have hc := h4 j (by omega)
    rw [hb.cell (World.block_lt_of_cell? _ _ hc)]; exact hc
theorem u64_zero : (Tryd.prog.info? 23).map (fun i => (i.zero, i.size, i.bytes)) = some (some (.int .u64 0), 1, 8) := by kernel_rfl
def goneOf (bs : List Bool) (j : Nat) : Bool := bs.getD j false
theorem gone_get {bs : List Bool} {j : Nat} (h : j < bs.length) : bs[j]? = some (goneOf bs j) := by
  unfold goneOf; rw [List.getD_eq_getElem?_getD, List.getElem?_eq_getElem h]; rfl
theorem gone_out {bs : List Bool} {j : Nat} (h : ¬ j < bs.length) : goneOf bs j = false := by
  unfold goneOf; rw [List.getD_eq_getElem?_getD, List.getElem?_eq_none (by omega)]; rfl
attribute [local irreducible] wpOrd
set_option maxRecDepth 8000 in
set_option maxHeartbeats 8000000 in
theorem moves_any (a0 : Option Addr) (len0 cap0 : Nat) (z0 : List Int) (a1 : Option Addr) (len1 cap1 : Nat) (z1 : List Int) (v2 : Value) (bs : List Bool) (w : World) (r0 : IsRow .u64 w a0 len0 cap0 z0) (r1 : IsRow .u64 w a1 len1 cap1 z1) (r2 : RowsAt boolC w v2 bs) (hE : Et w) :
    Calls Tryd.prog 5 #[.slice a0 len0 cap0, .slice a1 len1 cap1, v2] w fun e w' => e = .returned (.bool true) ∧ Below w.heap.size w w' := by
  have hlen := r0.len_le
  have hlen1 := r1.len_le
  have hbl := r2.2
  unfold maxLen at hlen hlen1 hbl
  obtain ⟨A2, cp2, rfl⟩ := r2.form
  have e0 : errV 0 = .nilIface := rfl
  have c1 := qNew_any 100 (Sat.start w)
  rw [show roomOf 100 = 100 by decide] at c1
  obtain ⟨n, hn⟩ : ∃ n : Nat, min (len0 : Int) 60 = n := ⟨(min (len0 : Int) 60).toNat, by omega⟩
  have hnl : n ≤ len0 := by omega
  have hn60 : n ≤ 60 := by omega
  have hcap : len0 ≤ cap0 := by
    rcases r0 with ⟨_, h, h', _⟩ | ⟨_, _, h, _⟩
    · omega
    · exact h
  have HN := Lib.hid hn
  clear hn
  go_enter Tryd.func5, Tryd.ntmps5
  go_wp2_with fail
  refine c1.mono ?_
  rintro e w1 ⟨q, rfl, hS1⟩
  clear c1
  go_wp2_with fail
  refine (awake17_any _ (hS1.et hE.pos hE)).mono ?_
  rintro e w3 ⟨rfl, hb3⟩
  have hS3 := hS1.below_ hb3
  clear hS1 hb3
  have hx : (min (len0 : Int) 60).toNat = n := by have := HN.out; omega
  have hEl : (List.map (fun j => z0.getD j 0) (List.range n)).length = n := by simp
  obtain ⟨v5, w5, hrun, hS5⟩ := (arr_nil (e := 23) (sz := 1) hS3).append (m := n) (news := ((List.range n).map fun j => z0.getD j 0).flatMap (intC .u64)) (t := 22) (ty := 22) (P := Tryd.prog) (x := .slice a0 n cap0) Tryd.underlying22 u64_zero (by simp [Value.cells]) (by decide) (r0.reads hnl w3 hS3.below) (by rw [flat_length (intC_length _), hEl]) (intC_one _ _) (by unfold maxLen; omega) (by omega)
  have hrun' : (Builtin.append_ #[22, 22] 22 #[.slice none 0 0, .slice a0 (min (len0 : Int) 60).toNat cap0]).run Tryd.prog w3 = .ok v5 w5 := by rw [hx]; exact hrun
  rw [Nat.zero_add, List.nil_append] at hS5
  have HX := Lib.hid hx
  clear hrun hS3 hx hEl
  go_wp2_with (refine wpList_append_run rfl _ _ _ rfl rfl rfl hrun' (stop_ ?_))
  unfold Stop
  rw [HX.out, HN.out]
  clear hrun'
  have hS5' : Sat w.heap.size w w5 (arr 23 1 v5 n ((endsOf z0 z1 len1 n 0).flatMap (intC .u64)) • queue q 100 (entsOf z0 0) • emp) := by rw [ends_zero]; exact hS5
  obtain ⟨A5, cp5, rfl⟩ := hS5'.arr_form
  clear hS5
  go_wp2_with fail
  go_loopw [10] (fun i wr => ∃ k : Nat, k ≤ n ∧ i = .int .i64 k ∧ Sat w.heap.size w wr (arr 23 1 (.slice A5 n cp5) n ((endsOf z0 z1 len1 n 0).flatMap (intC .u64)) • queue q 100 (entsOf z0 k) • emp)) (fun i _ => n - (intOf i).toNat)
  case atStart => exact ⟨0, Nat.zero_le _, rfl, hS5'⟩
  case round =>
    clear hS5'
    obtain ⟨k, hk, rfl, hS⟩ := hrel
    by_cases hlt : k < n
    · obtain ⟨x, rfl, hxl, hxw⟩ := r0.at' (show k < len0 by omega)
      have hc := hxw _ hS.below
      obtain ⟨p1, p2⟩ := ents_push (room := 100) z0 k (by omega)
      have c2 := qPush_any hS.pull2 (hS.et hE.pos hE) k (z0.getD k 0)
      rw [p1, p2, e0] at c2
      clear p1 p2
      generalize hz : z0.getD k 0 = z at *
      clear hz
      go_wp2_with fail
      refine c2.mono ?_
      rintro e w6 ⟨rfl, hS6⟩
      clear c2 hS hc
      go_wp2_with fail
      go_roundw
      case rel => exact ⟨k + 1, by omega, by go_num, hS6.pull2⟩
      case measure => simp [intOf]; omega
    · obtain rfl : k = n := by omega
      rw [← mvS_zero (ts := z1) (m := len1) (gone := goneOf bs)] at hS
      clear hlt hk
      go_wp2_with fail
      go_loopw [11, 12] (fun l i wr => ∃ k2 : Nat, k2 ≤ k ∧ i = .int .i64 k2 ∧ l = .int .i64 (leftOf (goneOf bs) k2) ∧ Sat w.heap.size w wr (arr 23 1 (.slice A5 k cp5) k ((endsOf z0 z1 len1 k k2).flatMap (intC .u64)) • queue q 100 (mvS z0 z1 len1 (goneOf bs) k k2) • emp)) (fun _ i _ => k - (intOf i).toNat)
      case atStart => exact ⟨0, Nat.zero_le _, rfl, rfl, hS⟩
      case round =>
        clear hS
        obtain ⟨k2, hk2, rfl, rfl, hS⟩ := hrel
        have hll := left_le (gone := goneOf bs) k2
        have hls := left_succ (gone := goneOf bs) k2
        by_cases hlt : k2 < k
        · have hthas := mvT_has (zs := z0) (ts := z1) (m := len1) (gone := goneOf bs) hlt
          by_cases hm : k2 < len1
          · obtain ⟨x1, rfl, hxl, hxw⟩ := r1.at' hm
            have hc := hxw _ hS.below
            have hsh := mvS_has (zs := z0) (ts := z1) (m := len1) (gone := goneOf bs) hlt
            have hw1 := mv_with (zs := z0) (ts := z1) (gone := goneOf bs) (n := k) hm
            have hes := ends_set (zs := z0) (ts := z1) hlt hm
            rcases hS.arr_open with ⟨_, h0, _, _⟩ | ⟨g, cap, cur, hv, q1, q2, q3, q4, hSb⟩
            · omega
            simp only [Value.slice.injEq] at hv
            obtain ⟨rfl, _, rfl⟩ := hv
            have hst := run_storeAt_row (P := Tryd.prog) (o := k2) (ty := 23) (v := .int .u64 (z1.getD k2 0)) hSb.heap (by kernel_rfl) (by simp only [Value.cells, List.size_toArray, List.length_cons, List.length_nil]; omega) (by simp [Value.cells, Value.oneCell'])
            have hSr := hSb.setRow (cs := splice cur k2 (Value.int .u64 (z1.getD k2 0)).cells.toList)
            have hsz : (splice cur k2 (Value.int .u64 (z1.getD k2 0)).cells.toList).size = cp5 * 1 := by
              rw [splice_size (by simp [Value.cells]; omega)]; exact q3
            have htk : (splice cur k2 (Value.int .u64 (z1.getD k2 0)).cells.toList).toList.take (k * 1) = (endsOf z0 z1 len1 k (k2 + 1)).flatMap (intC .u64) := by
              have := take_splice_set (enc := intC .u64) (intC_length _) (by decide) q4 (ends_length k2) (by omega) hlt (z1.getD k2 0)
              rw [hes, Nat.mul_one k2] at this
              exact this
            generalize wr.setRow g (splice cur k2 (Value.int .u64 (z1.getD k2 0)).cells.toList) = W6 at hst hSr
            have hS6 := Sat.arr_shut q1 q2 hsz htk hSr
            have hc6 := hxw _ hS6.below
            have c2 := qMove_any hS6.pull2 k2 (z1.getD k2 0)
            rw [noneC_yes hsh, hw1, e0] at c2
            generalize hz : z1.getD k2 0 = y at *
            have HTH := Lib.hid hthas
            have HLS := Lib.hid hls
            clear hz hw1 hes hsz htk hSr hSb hS hsh hthas hls q1 q2 q3 q4 hS6
            go_wp2_with (refine wpList_store_run (t := 23) rfl rfl rfl rfl hst (stop_ ?_))
            unfold Stop
            go_wp2_with fail
            refine c2.mono ?_
            rintro e w7 ⟨rfl, hS7⟩
            have hT := hS7.pull2
            clear c2 hS7 hst hc hc6
            by_cases hb : k2 < bs.length
            · obtain ⟨xb, cb, hv, hcl⟩ := r2.elem boolC_length (gone_get hb)
              simp only [Value.slice.injEq] at hv
              obtain ⟨rfl, _, rfl⟩ := hv
              have hcb := hcl _ hT.below 0 _ rfl
              simp only [Nat.mul_one, Nat.add_zero] at hcb
              clear hcl
              cases hg : goneOf bs k2
              · rw [hg] at hcb
                have hls2 := HLS.out
                rw [hg] at hls2
                simp only [Bool.false_eq_true, if_false] at hls2
                rw [mv_keep hg] at hT
                have HL2 := Lib.hid hls2
                clear hls2 hg
                go_wp2_with fail
                go_roundw
                case rel => exact ⟨k2 + 1, by omega, by go_num, by rw [HL2.out]; go_num, hT⟩
                case measure => simp [intOf]; omega
              · rw [hg] at hcb
                have hls2 := HLS.out
                rw [hg] at hls2
                simp only [if_true] at hls2
                have hsn := mvS_hasnt (zs := z0) (ts := z1) (m := len1) (n := k) hg
                have c3 := qCancel_any hT.pull2 k2
                rw [noneC_yes HTH.out, mv_gone hg, e0] at c3
                have HL2 := Lib.hid hls2
                have HSN := Lib.hid hsn
                clear hls2 hg hsn
                go_wp2_with fail
                refine c3.mono ?_
                rintro e w8 ⟨rfl, hS8⟩
                have c4 := qCancel_any hS8 k2
                rw [noneC_no HSN.out, without_no HSN.out] at c4
                clear c3 hT hcb
                go_wp2_with fail
                refine c4.mono ?_
                rintro e w9 ⟨rfl, hS9⟩
                clear c4 hS8
                go_wp2_with fail
                refine (bare_any 20 _).mono ?_
                rintro e w10 ⟨rfl, hb10⟩
                have hS10 := hS9.below_ hb10
                clear hS9 hb10
                go_wp2_with fail
                refine (same_any 20 20 _ (hS10.et hE.pos hE)).mono ?_
                rintro e w11 ⟨rfl, hb11⟩
                have hS11 := hS10.below_ hb11
                have c5 := qMove_any hS11 k2 5
                rw [noneC_no HSN.out, withDue_no HSN.out] at c5
                clear hS10 hb11
                go_wp2_with fail
                refine c5.mono ?_
                rintro e w12 ⟨rfl, hS12⟩
                clear hS11 c5
                go_wp2_with fail
                refine (bare_any 20 _).mono ?_
                rintro e w13 ⟨rfl, hb13⟩
                have hS13 := hS12.below_ hb13
                clear hS12 hb13
                go_wp2_with fail
                refine (same_any 20 20 _ (hS13.et hE.pos hE)).mono ?_
                rintro e w14 ⟨rfl, hb14⟩
                have hS14 := hS13.below_ hb14
                clear hS13 hb14
                go_wp2_with fail
                go_roundw
                case rel => exact ⟨k2 + 1, by omega, by go_num, by rw [HL2.out]; rfl, hS14.pull2⟩
                case measure => simp [intOf]; omega
            · have hg := gone_out hb
              have hls2 := HLS.out
              rw [hg] at hls2
              simp only [Bool.false_eq_true, if_false] at hls2
              rw [mv_keep hg] at hT
              have HL2 := Lib.hid hls2
              clear hls2 hg
              go_wp2_with fail
              go_roundw
              case rel => exact ⟨k2 + 1, by omega, by go_num, by rw [HL2.out]; go_num, hT⟩
              case measure => simp [intOf]; omega
          · rw [← mv_stay (n := k) hm, ← ends_stay hm] at hS
            have hT := hS
            have HTH := Lib.hid hthas
            have HLS := Lib.hid hls
            clear hthas hls hS
            by_cases hb : k2 < bs.length
            · obtain ⟨xb, cb, hv, hcl⟩ := r2.elem boolC_length (gone_get hb)
              simp only [Value.slice.injEq] at hv
              obtain ⟨rfl, _, rfl⟩ := hv
              have hcb := hcl _ hT.below 0 _ rfl
              simp only [Nat.mul_one, Nat.add_zero] at hcb
              clear hcl
              cases hg : goneOf bs k2
              · rw [hg] at hcb
                have hls2 := HLS.out
                rw [hg] at hls2
                simp only [Bool.false_eq_true, if_false] at hls2
                rw [mv_keep hg] at hT
                have HL2 := Lib.hid hls2
                clear hls2 hg
                go_wp2_with fail
                go_roundw
                case rel => exact ⟨k2 + 1, by omega, by go_num, by rw [HL2.out]; go_num, hT⟩
                case measure => simp [intOf]; omega
              · rw [hg] at hcb
                have hls2 := HLS.out
                rw [hg] at hls2
                simp only [if_true] at hls2
                have hsn := mvS_hasnt (zs := z0) (ts := z1) (m := len1) (n := k) hg
                have c3 := qCancel_any hT.pull2 k2
                rw [noneC_yes HTH.out, mv_gone hg, e0] at c3
                have HL2 := Lib.hid hls2
                have HSN := Lib.hid hsn
                clear hls2 hg hsn
                go_wp2_with fail
                refine c3.mono ?_
                rintro e w8 ⟨rfl, hS8⟩
                have c4 := qCancel_any hS8 k2
                rw [noneC_no HSN.out, without_no HSN.out] at c4
                clear c3 hT hcb
                go_wp2_with fail
                refine c4.mono ?_
                rintro e w9 ⟨rfl, hS9⟩
                clear c4 hS8
                go_wp2_with fail
                refine (bare_any 20 _).mono ?_
                rintro e w10 ⟨rfl, hb10⟩
                have hS10 := hS9.below_ hb10
                clear hS9 hb10
                go_wp2_with fail
                refine (same_any 20 20 _ (hS10.et hE.pos hE)).mono ?_
                rintro e w11 ⟨rfl, hb11⟩
                have hS11 := hS10.below_ hb11
                have c5 := qMove_any hS11 k2 5
                rw [noneC_no HSN.out, withDue_no HSN.out] at c5
                clear hS10 hb11
                go_wp2_with fail
                refine c5.mono ?_
                rintro e w12 ⟨rfl, hS12⟩
                clear hS11 c5
                go_wp2_with fail
                refine (bare_any 20 _).mono ?_
                rintro e w13 ⟨rfl, hb13⟩
                have hS13 := hS12.below_ hb13
                clear hS12 hb13
                go_wp2_with fail
                refine (same_any 20 20 _ (hS13.et hE.pos hE)).mono ?_
                rintro e w14 ⟨rfl, hb14⟩
                have hS14 := hS13.below_ hb14
                clear hS13 hb14
                go_wp2_with fail
                go_roundw
                case rel => exact ⟨k2 + 1, by omega, by go_num, by rw [HL2.out]; rfl, hS14.pull2⟩
                case measure => simp [intOf]; omega
            · have hg := gone_out hb
              have hls2 := HLS.out
              rw [hg] at hls2
              simp only [Bool.false_eq_true, if_false] at hls2
              rw [mv_keep hg] at hT
              have HL2 := Lib.hid hls2
              clear hls2 hg
              go_wp2_with fail
              go_roundw
              case rel => exact ⟨k2 + 1, by omega, by go_num, by rw [HL2.out]; go_num, hT⟩
              case measure => simp [intOf]; omega
        · obtain rfl : k2 = k := by omega
          clear hlt hls hk2
          obtain ⟨sp1, sp2, sp3, sp4⟩ := dueL_spec (mvS z0 z1 len1 (goneOf bs) k2 k2).length (mvS z0 z1 len1 (goneOf bs) k2 k2) 18446744073709551615 (Nat.le_refl _) mvS_nd
          have hR0 : (dueL (mvS z0 z1 len1 (goneOf bs) k2 k2).length (mvS z0 z1 len1 (goneOf bs) k2 k2) 18446744073709551615).2 = [] := by
            cases hR : (dueL (mvS z0 z1 len1 (goneOf bs) k2 k2).length (mvS z0 z1 len1 (goneOf bs) k2 k2) 18446744073709551615).2 with
            | nil => rfl
            | cons y ys =>
              exfalso
              have hy := sp3 y (by rw [hR]; simp)
              have hm : y ∈ mvS z0 z1 len1 (goneOf bs) k2 k2 := sp1.mem_iff.1 (List.mem_append_right _ (by rw [hR]; exact List.mem_cons_self))
              obtain ⟨i, hi, _, rfl⟩ := mem_mvS hm
              simp only at hy
              unfold endOf at hy
              split at hy
              · rename_i hi1
                obtain ⟨_, _, _, _, hwf⟩ := r1.at_ hi1
                have := (wf_u64' hwf).2
                omega
              · obtain ⟨_, _, _, _, hwf⟩ := r0.at_ (i := i) (by omega)
                have := (wf_u64' hwf).2
                omega
          have hDl : (dueL (mvS z0 z1 len1 (goneOf bs) k2 k2).length (mvS z0 z1 len1 (goneOf bs) k2 k2) 18446744073709551615).1.length = leftOf (goneOf bs) k2 := by
            have := sp1.length_eq
            rw [hR0, List.append_nil] at this
            rw [this]; exact mvS_len
          have hDm : ∀ x ∈ (dueL (mvS z0 z1 len1 (goneOf bs) k2 k2).length (mvS z0 z1 len1 (goneOf bs) k2 k2) 18446744073709551615).1, ∃ j, j < k2 ∧ goneOf bs j = false ∧ x = ⟨(j : Int), endOf z0 z1 len1 j⟩ := by
            intro x hx
            exact mem_mvS (sp1.mem_iff.1 (List.mem_append_left _ hx))
          have c2 := qDue_any hS.pull2 18446744073709551615
          rw [hR0] at c2
          rw [← hDl]
          generalize (dueL (mvS z0 z1 len1 (goneOf bs) k2 k2).length (mvS z0 z1 len1 (goneOf bs) k2 k2) 18446744073709551615).1 = D at *
          have hDle : D.length ≤ 60 := by omega
          have HDM := Lib.hid hDm
          clear hDl hDm sp1 sp2 sp3 sp4 hR0 hll
          go_wp2_with fail
          refine c2.mono ?_
          rintro e w4 ⟨v, rfl, hS4⟩
          obtain ⟨A, c, rfl⟩ := hS4.arr_form
          clear c2 hS
          go_wp2_with fail
          go_loopw [14, 15] (fun i _ wr => ∃ (j : Nat), j ≤ D.length ∧ i = .int .i64 j ∧ Sat w.heap.size w wr (arr 34 2 (.slice A D.length c) D.length (D.flatMap Ent.enc) • queue q 100 [] • arr 23 1 (.slice A5 k2 cp5) k2 ((endsOf z0 z1 len1 k2 k2).flatMap (intC .u64)) • emp)) (fun i _ _ => D.length - (intOf i).toNat)
          case atStart => exact ⟨0, Nat.zero_le _, rfl, hS4⟩
          case round =>
            clear hS4
            obtain ⟨j, hj, rfl, hS⟩ := hrel
            by_cases hlt : j < D.length
            · obtain ⟨jj, hjj, hgf, hgx⟩ := HDM.out _ (List.mem_of_getElem? (g_get hlt))
              rcases hS.arr_open with ⟨_, h0, _, _⟩ | ⟨g, cap, cur, hv, q1, q2, q3, q4, hSb⟩
              · omega
              simp only [Value.slice.injEq] at hv
              obtain ⟨rfl, _, rfl⟩ := hv
              rcases (hSb.pull3).arr_open with ⟨_, h0, _, _⟩ | ⟨g5, cap5, cur5, hv, p1, p2, p3, p4, hSc⟩
              · omega
              simp only [Value.slice.injEq] at hv
              obtain ⟨rfl, _, rfl⟩ := hv
              have u0 := cur_at Ent.enc_length q4 (g_get hlt) 0 _ rfl
              have u1 := cur_at Ent.enc_length q4 (g_get hlt) 1 _ rfl
              have u2 := cur_at (intC_length .u64) p4 (ends_get (zs := z0) (ts := z1) (m := len1) (i := k2) hjj) 0 _ rfl
              rw [if_pos hjj] at u2
              rw [hgx] at u0 u1
              simp only [Nat.mul_one, Nat.add_zero] at u0 u1 u2
              have d0 : wr.cell? ⟨g, j * 2, none⟩ = some (.int .i64 jj) := cell_of_heap hSb.heap u0
              have d1 : wr.cell? ⟨g, j * 2 + 1, none⟩ = some (.int .u64 (endOf z0 z1 len1 jj)) := cell_of_heap hSb.heap u1
              have d2 : wr.cell? ⟨g5, jj, none⟩ = some (.int .u64 (endOf z0 z1 len1 jj)) := cell_of_heap hSc.heap u2
              have HS := Lib.hid hS
              generalize endOf z0 z1 len1 jj = en at *
              by_cases hb : jj < bs.length
              · obtain ⟨xb, cb, hv, hcl⟩ := r2.elem boolC_length (gone_get hb)
                simp only [Value.slice.injEq] at hv
                obtain ⟨rfl, _, rfl⟩ := hv
                have d3 := hcl _ hS.below 0 _ rfl
                rw [hgf] at d3
                simp only [Nat.mul_one, Nat.add_zero] at d3
                have f1 : decide (k2 ≤ jj) = false := decide_eq_false (by omega)
                have f2 : decide (jj < bs.length) = true := decide_eq_true (by omega)
                clear hcl hgf hgx u0 u1 u2 q1 q2 q3 q4 p1 p2 p3 p4 hSb hSc hS
                go_wp2_with fail
                try go_frame
                refine wp_region_ord [(0, .pure), (1, .pure), (2, .pure), (3, .pure), (4, .pure), (5, .pure), (6, .pure), (7, .pure), (8, .pure), (9, .pure), (10, .pure), (11, .pure), (12, .quiet), (13, .pure), (14, .pure), (15, .pure), (16, .quiet), (17, .pure), (18, .pure), (19, .pure), (20, .pure), (21, .pure), (22, .pure), (23, .pure), (24, .pure), (25, .pure), (26, .pure), (27, .pure), (28, .quiet), (29, .pure), (30, .pure)] (by kernel_rfl) (by kernel_rfl)
                  (fun w' => ∀ p, w'.cell? p = wr.cell? p) (fun _ => rfl) ?_
                iterate 12 (refine ord_pure rfl rfl rfl (fun K' hK => ?_); go_big_quiet_op; refine hK _ ?_; clear hK K')
                refine ord_load (t := 23) rfl rfl rfl (p := .pointer (some ⟨g, j * 2 + 1, none⟩)) (v := .int .u64 en) rfl (fun w' hC => load_of_cell Tryd.underlying23 rfl (by rw [hC]; exact d1)) (fun K' hK => ?_)
                go_simp
                refine hK _ ?_
                clear hK K'
                iterate 3 (refine ord_pure rfl rfl rfl (fun K' hK => ?_); go_big_quiet_op; refine hK _ ?_; clear hK K')
                refine ord_load (t := 23) rfl rfl rfl (p := .pointer (some ⟨g5, jj, none⟩)) (v := .int .u64 en) rfl (fun w' hC => load_of_cell Tryd.underlying23 rfl (by rw [hC]; exact d2)) (fun K' hK => ?_)
                go_simp
                refine hK _ ?_
                clear hK K'
                iterate 11 (refine ord_pure rfl rfl rfl (fun K' hK => ?_); go_big_quiet_op; refine hK _ ?_; clear hK K')
                refine ord_load (t := 4) rfl rfl rfl (p := .pointer (some (xb.add jj))) (v := .bool false) rfl (fun w' hC => load_of_cell Tryd.underlying4 rfl (by rw [hC]; exact d3)) (fun K' hK => ?_)
                go_simp
                refine hK _ ?_
                clear hK K'
                iterate 2 (refine ord_pure rfl rfl rfl (fun K' hK => ?_); go_big_quiet_op; refine hK _ ?_; clear hK K')
                refine ord_nil ?_
                go_wp2_with fail
                go_roundw
                case rel => exact ⟨j + 1, by omega, by go_num, HS.out.drew⟩
                case measure => simp [intOf]; omega
              · have f1 : decide (k2 ≤ jj) = false := decide_eq_false (by omega)
                have f2 : decide (jj < bs.length) = false := decide_eq_false (by omega)
                clear hgf hgx u0 u1 u2 q1 q2 q3 q4 p1 p2 p3 p4 hSb hSc hS
                go_wp2_with fail
                try go_frame
                refine wp_region_ord [(0, .pure), (1, .pure), (2, .pure), (3, .pure), (4, .pure), (5, .pure), (6, .pure), (7, .pure), (8, .pure), (9, .pure), (10, .pure), (11, .pure), (12, .quiet), (13, .pure), (14, .pure), (15, .pure), (16, .quiet), (17, .pure), (18, .pure), (19, .pure), (20, .pure), (21, .pure), (22, .pure), (23, .pure), (24, .pure), (25, .pure), (26, .pure), (27, .pure), (28, .quiet), (29, .pure), (30, .pure)] (by kernel_rfl) (by kernel_rfl)
                  (fun w' => ∀ p, w'.cell? p = wr.cell? p) (fun _ => rfl) ?_
                iterate 12 (refine ord_pure rfl rfl rfl (fun K' hK => ?_); go_big_quiet_op; refine hK _ ?_; clear hK K')
                refine ord_load (t := 23) rfl rfl rfl (p := .pointer (some ⟨g, j * 2 + 1, none⟩)) (v := .int .u64 en) rfl (fun w' hC => load_of_cell Tryd.underlying23 rfl (by rw [hC]; exact d1)) (fun K' hK => ?_)
                go_simp
                refine hK _ ?_
                clear hK K'
                iterate 3 (refine ord_pure rfl rfl rfl (fun K' hK => ?_); go_big_quiet_op; refine hK _ ?_; clear hK K')
                refine ord_load (t := 23) rfl rfl rfl (p := .pointer (some ⟨g5, jj, none⟩)) (v := .int .u64 en) rfl (fun w' hC => load_of_cell Tryd.underlying23 rfl (by rw [hC]; exact d2)) (fun K' hK => ?_)
                go_simp
                refine hK _ ?_
                clear hK K'
                iterate 8 (refine ord_pure rfl rfl rfl (fun K' hK => ?_); go_big_quiet_op; refine hK _ ?_; clear hK K')
                iterate 4 (refine ord_skip' rfl rfl (fun K' hK => ?_); go_simp; refine hK _ ?_; clear hK K')
                iterate 2 (refine ord_pure rfl rfl rfl (fun K' hK => ?_); go_big_quiet_op; refine hK _ ?_; clear hK K')
                refine ord_nil ?_
                go_wp2_with fail
                go_roundw
                case rel => exact ⟨j + 1, by omega, by go_num, HS.out.drew⟩
                case measure => simp [intOf]; omega
            · obtain rfl : j = D.length := by omega
              go_wp2_with fail
              go_ret
              exact ⟨rfl, hS.below⟩
end Go.Proofs.YtepaanpdjadakaaDoor
