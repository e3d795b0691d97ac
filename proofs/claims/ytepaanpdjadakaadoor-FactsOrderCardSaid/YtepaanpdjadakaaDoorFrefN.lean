import Derived.Test.YtepaanpdjadakaaDoorFref
/-! The reference's facts: Names. -/
namespace Go.Proofs.YtepaanpdjadakaaDoor
open Go Go.RowKit

attribute [local irreducible] wpOrd
section
variable {B : Nat} {w0 w w' : World} {F : HP} {b : Nat} {n : Int} {L : List Fct} {v : Value}
set_option maxRecDepth 8000 in
set_option maxHeartbeats 4000000 in
theorem rNames_any (h : Sat B w0 w (fref b n L • F)) (hl : L.length ≤ 1000) (a : Adr) : Calls Tryd.prog 69 #[.pointer (some ⟨b, 0, none⟩), .agg a.enc.toArray] w fun e w' =>
    ∃ v, e = .returned v ∧ Sat B w0 w' (arr 9 1 v (namesL L a).length ((namesL L a).flatMap strC) • fref b n L • F) := by
  obtain ⟨A, c, hS⟩ := h.fref_open
  have hX := hS.alloc (.cells a.enc.toArray 63)
  have hla : ∀ W, W.heap[w.heap.size]? = some (.cells a.enc.toArray 63) → (Instr.loadAt 63 (.pointer (some ⟨w.heap.size, 0, none⟩))).run Tryd.prog W = .ok (.agg a.enc.toArray) W :=
    fun W h => run_loadAt_row h Tryd.underlying63 rfl (by rw [Adr.enc_length]; kernel_rfl) (fun j u hu => by simpa using hu)
  have HLA := Lib.hid hla
  have HEQ := Lib.hid (fun (x : Adr) (w : World) => (adr_eq 9997 x a : EqV Tryd.prog w 10000 63 _ _ (decide (x = a))))
  have hS0 := arr_nil (e := 9) (sz := 1) hX
  clear hla hX hS h
  generalize a.enc.toArray = AE at *
  generalize hxb : w.heap.size = xb at *
  go_enter Tryd.func69, Tryd.ntmps69
  go_wp2_with fail
  try rw [hxb]
  go_loopw [5, 6] (fun v s wr => ∃ k : Nat, k ≤ L.length ∧ s = .int .i64 k ∧ Sat B w0 wr (arr 9 1 v (namesL (L.take k) a).length ((namesL (L.take k) a).flatMap strC) • blk b (.cells #[.int .i64 n, .slice A L.length c] 107) • arr 99 19 (.slice A L.length c) L.length (L.flatMap Fct.enc) • blk xb (.cells AE 63) • F)) (fun _ s _ => L.length - (intOf s).toNat)
  case atStart => exact ⟨0, Nat.zero_le _, rfl, (by simpa [namesL] using hS0.to (by ac_rfl : _ = arr 9 1 (.slice none 0 0) 0 [] • blk b (.cells #[.int .i64 n, .slice A L.length c] 107) • arr 99 19 (.slice A L.length c) L.length (L.flatMap Fct.enc) • blk xb (.cells AE 63) • F))⟩
  case round =>
    clear hS0 hxb
    obtain ⟨k, hk, rfl, hS⟩ := hrel
    obtain ⟨A3, c3, hv3⟩ := hS.arr_form
    subst hv3
    have d1 : wr.cell? ⟨b, 1, none⟩ = some (.slice A L.length c) := cell_heap hS.pull2.heap rfl
    by_cases hlt : k < L.length
    · obtain ⟨x, hxk⟩ : ∃ x, L[k]? = some x := ⟨_, List.getElem?_eq_getElem hlt⟩
      obtain ⟨g, rfl, _, hc⟩ := hS.pull3.arr_at Fct.enc_length rfl hxk
      have hltz : (k : Int) < L.length := by omega
      have hnl := namesL_le (L.take k) a
      rw [List.length_take] at hnl
      have htk : L.take (k + 1) = L.take k ++ [x] := by rw [List.take_add_one, hxk]; rfl
      have hsn := namesL_snoc (L.take k) x a
      rw [← htk] at hsn
      have hln : (Instr.loadAt 63 (.pointer (some ⟨g, k * 19 + 1, none⟩))).run Tryd.prog wr = .ok (.agg x.key.adr.enc.toArray) wr :=
        run_loadAt_cells Tryd.underlying63 rfl (by rw [Adr.enc_length]; kernel_rfl) (fun j u hu => by
          have hj : j < 17 := by have := (List.getElem?_eq_some_iff.1 hu).1; rwa [Adr.enc_length] at this
          rw [Addr.add_lit, Nat.add_assoc]
          exact hc (1 + j) u (by rw [x.at0 (1 + j) (by omega), Fk.at1]; exact hu))
      have dn := hc 0 (.string x.key.name) rfl
      rw [Nat.add_zero] at dn
      have hlb := HLA.out _ hS.pull4.heap
      have he := HEQ.out x.key.adr
      have hD := hS.drew
      have hC1 : ∀ p, wr.drew.cell? p = wr.cell? p := fun _ => rfl
      have hY := hD.alloc_ (.cells #[.string x.key.name] 9)
      obtain ⟨v6, w6, hrun, hS6⟩ := hY.append (m := 1) (news := [.string x.key.name]) (t := 102) (ty := 102) (P := Tryd.prog) (x := .slice (some ⟨wr.drew.heap.size, 0, none⟩) 1 1) Tryd.underlying102 str_zero (by simp [Value.cells]) (by decide) reads_new rfl (by simp [Value.oneCell']) (by unfold maxLen; omega) (by omega)
      obtain ⟨A6, c6, rfl⟩ := hS6.arr_form
      have hlnW : ∀ W, Sat B w0 W (arr 9 1 (.slice A3 (namesL (L.take k) a).length c3) (namesL (L.take k) a).length ((namesL (L.take k) a).flatMap strC) • blk b (.cells #[.int .i64 n, .slice (some ⟨g, 0, none⟩) L.length c] 107) • arr 99 19 (.slice (some ⟨g, 0, none⟩) L.length c) L.length (L.flatMap Fct.enc) • blk xb (.cells AE 63) • F) → (Instr.loadAt 63 (.pointer (some ⟨g, k * 19 + 1, none⟩))).run Tryd.prog W = .ok (.agg x.key.adr.enc.toArray) W := by
        intro W hW
        obtain ⟨g', hg', _, hc'⟩ := hW.pull3.arr_at Fct.enc_length rfl hxk
        simp only [Option.some.injEq, Addr.mk.injEq] at hg'
        obtain ⟨rfl, _⟩ := hg'
        exact run_loadAt_cells Tryd.underlying63 rfl (by rw [Adr.enc_length]; kernel_rfl) (fun j u hu => by
          have hj : j < 17 := by have := (List.getElem?_eq_some_iff.1 hu).1; rwa [Adr.enc_length] at this
          rw [Addr.add_lit, Nat.add_assoc]
          exact hc' (1 + j) u (by rw [x.at0 (1 + j) (by omega), Fk.at1]; exact hu))
      have HLN := Lib.hid hlnW
      have dnd : wr.drew.cell? ⟨g, k * 19, none⟩ = some (.string x.key.name) := dn
      have d1d : wr.drew.cell? ⟨b, 1, none⟩ = some (.slice (some ⟨g, 0, none⟩) L.length c) := d1
      clear hc hxk htk hY hC1 hlnW hln hlb dn
      generalize x.key.adr.enc.toArray = XE at *
      generalize hxn : x.key.name = xn at *
      cases hq : decide (x.key.adr = a) with
      | true =>
        rw [hq] at he hsn
        simp only [if_true] at hsn
        have hfm : (namesL (L.take k) a).flatMap strC ++ [.string xn] = (namesL (L.take (k + 1)) a).flatMap strC := by rw [hsn, List.flatMap_append]; rfl
        have hlen : (namesL (L.take (k + 1)) a).length = (namesL (L.take k) a).length + 1 := by rw [hsn]; simp
        rw [hfm] at hS6
        have HNL := Lib.hid hlen
        have HE := Lib.hid he
        clear hsn hfm hlen hq hS he
        go_wp2_with fail
        try go_frame
        refine wp_region_ord [(0, .pure), (1, .pure), (2, .pure), (3, .quiet), (4, .pure), (5, .pure), (6, .pure), (7, .quiet), (8, .quiet), (9, .pure)] (by kernel_rfl) (by kernel_rfl)
          (fun w' => Sat B w0 w' (arr 9 1 (.slice A3 (namesL (L.take k) a).length c3) (namesL (L.take k) a).length ((namesL (L.take k) a).flatMap strC) • blk b (.cells #[.int .i64 n, .slice (some ⟨g, 0, none⟩) L.length c] 107) • arr 99 19 (.slice (some ⟨g, 0, none⟩) L.length c) L.length (L.flatMap Fct.enc) • blk xb (.cells AE 63) • F)) hD ?_
        iterate 3 (refine ord_pure rfl rfl rfl (fun K' hK => ?_); go_big_quiet_op; refine hK _ ?_; clear hK K')
        refine ord_load (t := 100) rfl rfl rfl (p := .pointer (some ⟨b, 1, none⟩)) (v := .slice (some ⟨g, 0, none⟩) L.length c) rfl (fun w' hC => load_one Tryd.underlying100 rfl (cell_heap hC.pull2.heap rfl)) (fun K' hK => ?_)
        go_simp
        refine hK _ ?_
        clear hK K'
        iterate 3 (refine ord_pure rfl rfl rfl (fun K' hK => ?_); go_big_quiet_op; refine hK _ ?_; clear hK K')
        refine ord_load (t := 63) rfl rfl rfl (p := .pointer (some ⟨g, k * 19 + 1, none⟩)) (v := .agg XE) rfl (fun w' hC => HLN.out _ hC) (fun K' hK => ?_)
        go_simp
        refine hK _ ?_
        clear hK K'
        refine ord_load (t := 63) rfl rfl rfl (p := .pointer (some ⟨xb, 0, none⟩)) (v := .agg AE) rfl (fun w' hC => HLA.out _ hC.pull4.heap) (fun K' hK => ?_)
        go_simp
        refine hK _ ?_
        clear hK K'
        refine ord_eql rfl rfl rfl rfl rfl (by kernel_rfl) (fun w' => HE.out w') (fun K' hK => ?_)
        go_simp
        refine hK _ ?_
        clear hK K'
        refine ord_nil ?_
        go_wp2_with (at_builtin; refine wpList_append_run rfl _ _ _ rfl rfl rfl hrun ?_)
        go_roundw
        case rel => exact ⟨k + 1, by omega, by go_num, by rw [HNL.out]; exact hS6⟩
        case measure => simp [intOf]; omega
      | false =>
        rw [hq] at he hsn
        simp only [Bool.false_eq_true, if_false] at hsn
        have HNL := Lib.hid hsn
        have HE := Lib.hid he
        clear hsn hq hS he hrun hS6
        go_wp2_with fail
        try go_frame
        refine wp_region_ord [(0, .pure), (1, .pure), (2, .pure), (3, .quiet), (4, .pure), (5, .pure), (6, .pure), (7, .quiet), (8, .quiet), (9, .pure)] (by kernel_rfl) (by kernel_rfl)
          (fun w' => Sat B w0 w' (arr 9 1 (.slice A3 (namesL (L.take k) a).length c3) (namesL (L.take k) a).length ((namesL (L.take k) a).flatMap strC) • blk b (.cells #[.int .i64 n, .slice (some ⟨g, 0, none⟩) L.length c] 107) • arr 99 19 (.slice (some ⟨g, 0, none⟩) L.length c) L.length (L.flatMap Fct.enc) • blk xb (.cells AE 63) • F)) hD ?_
        iterate 3 (refine ord_pure rfl rfl rfl (fun K' hK => ?_); go_big_quiet_op; refine hK _ ?_; clear hK K')
        refine ord_load (t := 100) rfl rfl rfl (p := .pointer (some ⟨b, 1, none⟩)) (v := .slice (some ⟨g, 0, none⟩) L.length c) rfl (fun w' hC => load_one Tryd.underlying100 rfl (cell_heap hC.pull2.heap rfl)) (fun K' hK => ?_)
        go_simp
        refine hK _ ?_
        clear hK K'
        iterate 3 (refine ord_pure rfl rfl rfl (fun K' hK => ?_); go_big_quiet_op; refine hK _ ?_; clear hK K')
        refine ord_load (t := 63) rfl rfl rfl (p := .pointer (some ⟨g, k * 19 + 1, none⟩)) (v := .agg XE) rfl (fun w' hC => HLN.out _ hC) (fun K' hK => ?_)
        go_simp
        refine hK _ ?_
        clear hK K'
        refine ord_load (t := 63) rfl rfl rfl (p := .pointer (some ⟨xb, 0, none⟩)) (v := .agg AE) rfl (fun w' hC => HLA.out _ hC.pull4.heap) (fun K' hK => ?_)
        go_simp
        refine hK _ ?_
        clear hK K'
        refine ord_eql rfl rfl rfl rfl rfl (by kernel_rfl) (fun w' => HE.out w') (fun K' hK => ?_)
        go_simp
        refine hK _ ?_
        clear hK K'
        refine ord_nil ?_
        go_wp2_with fail
        go_roundw
        case rel => exact ⟨k + 1, by omega, by go_num, by rw [HNL.out]; exact hD⟩
        case measure => simp [intOf]; omega
    · obtain rfl : k = L.length := by omega
      have hltz : ¬ (L.length : Int) < L.length := by omega
      rw [List.take_length] at hS ⊢
      go_wp2_with fail
      go_ret
      exact ⟨_, rfl, (Sat.fref_shut (hS.pull4.drop.to (by ac_rfl : _ = blk b (.cells #[.int .i64 n, .slice A L.length c] 107) • arr 99 19 (.slice A L.length c) L.length (L.flatMap Fct.enc) • arr 9 1 (.slice A3 (namesL L a).length c3) (namesL L a).length ((namesL L a).flatMap strC) • F))).pull2⟩
end
end Go.Proofs.YtepaanpdjadakaaDoor
