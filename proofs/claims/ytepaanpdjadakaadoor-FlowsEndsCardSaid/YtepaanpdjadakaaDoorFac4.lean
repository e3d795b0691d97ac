import Derived.Test.YtepaanpdjadakaaDoorDropF
import Derived.Test.YtepaanpdjadakaaDoorFct
import Derived.Test.YtepaanpdjadakaaDoorFac3
import Derived.Test.YtepaanpdjadakaaDoorSameS
/-! Tables of facts: Names. -/
namespace Go.Proofs.YtepaanpdjadakaaDoor
open Go Go.RowKit

attribute [local irreducible] wpOrd
def namesL (L : List Fct) (a : Adr) : List ByteArray := (L.filter fun f => decide (f.key.adr = a)).map (·.key.name)
theorem namesL_le (L : List Fct) (a : Adr) : (namesL L a).length ≤ L.length := by
  unfold namesL
  rw [List.length_map]
  exact List.length_filter_le _ _
theorem namesL_snoc (L : List Fct) (f : Fct) (a : Adr) : namesL (L ++ [f]) a = if decide (f.key.adr = a) then namesL L a ++ [f.key.name] else namesL L a := by
  unfold namesL
  rw [List.filter_append, List.map_append]
  cases h : decide (f.key.adr = a) <;> simp [h]
theorem str_zero : (Tryd.prog.info? 9).map (fun i => (i.zero, i.size, i.bytes)) = some (some (.string ⟨#[]⟩), 1, 16) := by kernel_rfl
section
variable {B : Nat} {w0 w w' : World} {F X : HP} {R : List (Itm Fk)} {t room : Nat} {next : Int}
set_option maxRecDepth 8000 in
set_option maxHeartbeats 4000000 in
theorem fNames_any (h : Sat B w0 w (ftab t room R next • F)) (a : Adr) : Calls Tryd.prog 63 #[.pointer (some ⟨t, 0, none⟩), .agg a.enc.toArray] w fun e w' =>
    ∃ v, e = .returned v ∧ Sat B w0 w' (arr 9 1 v (namesL (fcts R) a).length ((namesL (fcts R) a).flatMap strC) • ftab t room R next • F) := by
  have hRl : R.length ≤ 1000 := by
    obtain ⟨_, _, _, _, h1, h2, _⟩ := h.tab_open
    omega
  have hX := h.alloc (.cells a.enc.toArray 63)
  have c1 := fAll_any hX.pull2
  have hla : ∀ W, W.heap[w.heap.size]? = some (.cells a.enc.toArray 63) → (Instr.loadAt 63 (.pointer (some ⟨w.heap.size, 0, none⟩))).run Tryd.prog W = .ok (.agg a.enc.toArray) W :=
    fun W h => run_loadAt_row h Tryd.underlying63 rfl (by rw [Adr.enc_length]; kernel_rfl) (fun j u hu => by simpa using hu)
  have HLA := Lib.hid hla
  have heq := fun (x : Adr) (w : World) => (adr_eq 9997 x a : EqV Tryd.prog w 10000 63 _ _ (decide (x = a)))
  have HEQ := Lib.hid heq
  have hfl := fcts_length R
  clear hla heq hX h
  generalize a.enc.toArray = AE at *
  go_enter Tryd.func63, Tryd.ntmps63
  go_wp2_with fail
  refine c1.mono ?_
  rintro e w1 ⟨v1, rfl, hS1⟩
  obtain ⟨A1, d1, rfl⟩ := hS1.arr_form
  have hS0 := arr_nil (e := 9) (sz := 1) hS1
  clear c1 hS1
  generalize hL0 : fcts R = L at *
  have HL0 := Lib.hid hL0
  clear hL0
  rw [← hfl] at hS0 hRl ⊢
  clear hfl
  go_wp2_with fail
  go_loopw [5, 7, 11] (fun v _ s wr => ∃ k : Nat, k ≤ L.length ∧ s = .int .i64 k ∧ Sat B w0 wr (arr 9 1 v (namesL (L.take k) a).length ((namesL (L.take k) a).flatMap strC) • arr 99 19 (.slice A1 L.length d1) L.length (L.flatMap Fct.enc) • ftab t room R next • blk w.heap.size (.cells AE 63) • F)) (fun _ _ s _ => L.length - (intOf s).toNat)
  case atStart => exact ⟨0, Nat.zero_le _, rfl, by simpa [namesL] using hS0⟩
  case round =>
    clear hS0
    obtain ⟨k, hk, rfl, hS⟩ := hrel
    obtain ⟨A3, c3, hv3⟩ := hS.arr_form
    subst hv3
    by_cases hlt : k < L.length
    · obtain ⟨x, hxk⟩ : ∃ x, L[k]? = some x := ⟨_, List.getElem?_eq_getElem hlt⟩
      obtain ⟨g, rfl, _, hc⟩ := hS.pull2.arr_at Fct.enc_length rfl hxk
      have hltz : (k : Int) < L.length := by omega
      have hnl := namesL_le (L.take k) a
      rw [List.length_take] at hnl
      have htk : L.take (k + 1) = L.take k ++ [x] := by rw [List.take_add_one, hxk]; rfl
      have hsn := namesL_snoc (L.take k) x a
      rw [← htk] at hsn
      have hl : (Instr.loadAt 99 (.pointer (some ⟨g, k * 19, none⟩))).run Tryd.prog wr = .ok (.agg x.enc.toArray) wr :=
        run_loadAt_cells Tryd.underlying99 rfl (by rw [Fct.enc_length]; kernel_rfl) (fun j u hu => by rw [Addr.add_lit]; exact hc j u hu)
      have hst : ∀ (W : World) (z : Array Value), z.size = 19 → (Instr.storeAt 99 (.pointer (some ⟨W.heap.size, 0, none⟩)) (.agg x.enc.toArray)).run Tryd.prog (W.alloc (.cells z 99)) = .ok () (W.alloc (.cells x.enc.toArray 99)) :=
        fun W z hz => run_storeAt_new (v := .agg x.enc.toArray) (by simp only [Value.cells, List.size_toArray, Fct.enc_length]; kernel_rfl) (by simp only [Value.cells, List.size_toArray, Fct.enc_length]; exact hz) (by simpa [Value.cells] using x.enc_one)
      have hX := hS.alloc (.cells x.enc.toArray 99)
      have hln : (Instr.loadAt 63 (.pointer (some ⟨wr.heap.size, 1, none⟩))).run Tryd.prog (wr.alloc (.cells x.enc.toArray 99)) = .ok (.agg x.key.adr.enc.toArray) (wr.alloc (.cells x.enc.toArray 99)) :=
        run_loadAt_row hX.heap Tryd.underlying63 rfl (by rw [Adr.enc_length]; kernel_rfl) (fun j u hu => by
          have hj : j < 17 := by have := (List.getElem?_eq_some_iff.1 hu).1; rwa [Adr.enc_length] at this
          rw [List.getElem?_toArray, x.at0 (1 + j) (by omega), Fk.at1]
          exact hu)
      have hla := HLA.out _ (hX.to (by ac_rfl : _ = blk w.heap.size (.cells AE 63) • (blk wr.heap.size (.cells x.enc.toArray 99) • arr 9 1 (.slice A3 (namesL (L.take k) a).length c3) (namesL (L.take k) a).length ((namesL (L.take k) a).flatMap strC) • arr 99 19 (.slice (some ⟨g, 0, none⟩) L.length d1) L.length (L.flatMap Fct.enc) • ftab t room R next • F))).heap
      have dn : (wr.alloc (.cells x.enc.toArray 99)).cell? ⟨wr.heap.size, 0, none⟩ = some (.string x.key.name) := cell_heap hX.heap (by simp [Fct.enc, Fk.enc])
      have he := HEQ.out x.key.adr
      have hY := hX.pull2.alloc_ (.cells #[.string x.key.name] 9)
      obtain ⟨v6, w6, hrun, hS6⟩ := hY.append (m := 1) (news := [.string x.key.name]) (t := 102) (ty := 102) (P := Tryd.prog) (x := .slice (some ⟨(wr.alloc (.cells x.enc.toArray 99)).heap.size, 0, none⟩) 1 1) Tryd.underlying102 str_zero (by simp [Value.cells]) (by decide) reads_new rfl (by simp [Value.oneCell']) (by unfold maxLen; omega) (by omega)
      rw [World.size_alloc] at hrun
      obtain ⟨A6, c6, rfl⟩ := hS6.arr_form
      clear hc hxk htk hY
      generalize x.enc.toArray = Y at *
      generalize x.key.adr.enc.toArray = XE at *
      generalize hxn : x.key.name = xn at *
      cases hq : decide (x.key.adr = a) with
      | true =>
        rw [hq] at he hsn
        simp only [if_true] at hsn
        have hfm : (namesL (L.take k) a).flatMap strC ++ [.string xn] = (namesL (L.take (k + 1)) a).flatMap strC := by rw [hsn, List.flatMap_append]; rfl
        have hlen : (namesL (L.take (k + 1)) a).length = (namesL (L.take k) a).length + 1 := by rw [hsn]; simp
        rw [hfm] at hS6
        have HN := Lib.hid hlen
        clear hsn hfm hlen hq hX hS
        go_wp2_with (first | (refine wpList_load_run (t := 99) rfl rfl rfl hl ?_) | (refine wpList_store_run (t := 99) rfl rfl rfl rfl (hst _ _ rfl) (stop_ ?_)))
        unfold Stop
        go_wp2_with (first | (refine wpList_load_run (t := 63) rfl rfl rfl hln ?_) | (refine wpList_load_run (t := 63) rfl rfl rfl hla ?_) | (refine wpList_eql_run rfl rfl rfl rfl (by kernel_rfl) (he _) ?_) | (at_builtin; refine wpList_append_run rfl _ _ _ rfl rfl rfl hrun ?_))
        go_roundw
        case rel => exact ⟨k + 1, by omega, by go_num, by rw [HN.out]; exact hS6.pull2.drop⟩
        case measure => simp [intOf]; omega
      | false =>
        rw [hq] at he hsn
        simp only [Bool.false_eq_true, if_false] at hsn
        have HN := Lib.hid hsn
        clear hsn hq hrun hS6 hS
        go_wp2_with (first | (refine wpList_load_run (t := 99) rfl rfl rfl hl ?_) | (refine wpList_store_run (t := 99) rfl rfl rfl rfl (hst _ _ rfl) (stop_ ?_)))
        unfold Stop
        go_wp2_with (first | (refine wpList_load_run (t := 63) rfl rfl rfl hln ?_) | (refine wpList_load_run (t := 63) rfl rfl rfl hla ?_) | (refine wpList_eql_run rfl rfl rfl rfl (by kernel_rfl) (he _) ?_))
        go_roundw
        case rel => exact ⟨k + 1, by omega, by go_num, by rw [HN.out]; exact hX.drop⟩
        case measure => simp [intOf]; omega
    · obtain rfl : k = L.length := by omega
      have hltz : ¬ (L.length : Int) < L.length := by omega
      rw [List.take_length] at hS
      go_wp2_with fail
      go_ret
      rw [HL0.out]
      exact ⟨_, rfl, ((hS.pull2.drop).pull3.drop)⟩
end
end Go.Proofs.YtepaanpdjadakaaDoor
