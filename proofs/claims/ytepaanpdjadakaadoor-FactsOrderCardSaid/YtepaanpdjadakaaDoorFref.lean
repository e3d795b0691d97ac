import Derived.Test.YtepaanpdjadakaaDoorLrnP
import Derived.Lib.MinMax
/-! The reference's facts: what it holds; Expire, Drop. -/
namespace Go.Proofs.YtepaanpdjadakaaDoor
open Go Go.RowKit

def endsBy (now : Int) (f : Fct) : Bool := decide (f.due ≤ now)
def namedF (name : ByteArray) (f : Fct) : Bool := decide (f.key.name = name)
theorem fcts_late (R : List (Itm Fk)) (now : Int) : fcts (R.filter fun x => !lateF now x) = (fcts R).filter fun f => !endsBy now f := by
  unfold fcts
  rw [List.filter_map]
  rfl
theorem fcts_named (R : List (Itm Fk)) (name : ByteArray) : fcts (R.filter fun x => !isN name x) = (fcts R).filter fun f => !namedF name f := by
  unfold fcts
  rw [List.filter_map]
  rfl
theorem keep_snoc {α : Type} {L : List α} {k : Nat} {f : α} (q : α → Bool) (h : L[k]? = some f) : (L.take (k + 1)).filter q = (L.take k).filter q ++ (if q f then [f] else []) := by
  rw [List.take_add_one, h, Option.toList_some, List.filter_append]
  cases hq : q f <;> simp [hq]
theorem keep_le {α : Type} (L : List α) (k : Nat) (q : α → Bool) : ((L.take k).filter q).length ≤ k := by
  have := List.length_filter_le q (L.take k)
  rw [List.length_take] at this
  omega
/-- What a reference holds. -/
def fref (b : Nat) (n : Int) (L : List Fct) : HP := hex fun (v : Value) => blk b (.cells #[.int .i64 n, v] 107) • arr 99 19 v L.length (L.flatMap Fct.enc)
section
variable {B : Nat} {w0 w w' : World} {F : HP} {b : Nat} {n : Int} {L : List Fct} {v : Value}
theorem Sat.fref_open (h : Sat B w0 w (fref b n L • F)) : ∃ A c, Sat B w0 w (blk b (.cells #[.int .i64 n, .slice A L.length c] 107) • arr 99 19 (.slice A L.length c) L.length (L.flatMap Fct.enc) • F) := by
  unfold fref at h
  rw [hex_star] at h
  obtain ⟨v, h⟩ := h.ex
  rw [star_assoc] at h
  obtain ⟨A, c, rfl⟩ := h.pull2.arr_form
  exact ⟨A, c, h⟩
theorem Sat.fref_shut (h : Sat B w0 w (blk b (.cells #[.int .i64 n, v] 107) • arr 99 19 v L.length (L.flatMap Fct.enc) • F)) : Sat B w0 w (fref b n L • F) := by
  unfold fref
  rw [hex_star]
  refine Sat.ex_mk v ?_
  rw [star_assoc]
  exact h
theorem flat_fct (l : List Fct) : (l.flatMap Fct.enc).length = l.length * 19 := flat_length Fct.enc_length l
theorem flat_fct_one (l : List Fct) : ∀ u ∈ l.flatMap Fct.enc, u.oneCell' = true := by
  intro u hu
  obtain ⟨x, _, hx⟩ := List.mem_flatMap.1 hu
  exact x.enc_one u hx
set_option maxRecDepth 8000 in
set_option maxHeartbeats 4000000 in
theorem rExpire_any (h : Sat B w0 w (fref b n L • F)) (hl : L.length ≤ 1000) (now : Int) : Calls Tryd.prog 64 #[.pointer (some ⟨b, 0, none⟩), .int .u64 now] w fun e w' => e = .returned (.int .i64 ((L.length : Int) - (L.filter fun f => !endsBy now f).length)) ∧ Sat B w0 w' (fref b n (L.filter fun f => !endsBy now f) • F) := by
  obtain ⟨A, c, hS⟩ := h.fref_open
  have hS0 := arr_nil (e := 99) (sz := 19) hS
  clear hS h
  go_enter Tryd.func64, Tryd.ntmps64
  go_wp2_with fail
  go_loopw [5, 6] (fun v s wr => ∃ k : Nat, k ≤ L.length ∧ s = .int .i64 k ∧ Sat B w0 wr (arr 99 19 v ((L.take k).filter fun f => !endsBy now f).length (((L.take k).filter fun f => !endsBy now f).flatMap Fct.enc) • blk b (.cells #[.int .i64 n, .slice A L.length c] 107) • arr 99 19 (.slice A L.length c) L.length (L.flatMap Fct.enc) • F)) (fun _ s _ => L.length - (intOf s).toNat)
  case atStart => exact ⟨0, Nat.zero_le _, rfl, by simpa using hS0⟩
  case round =>
    clear hS0
    obtain ⟨k, hk, rfl, hS⟩ := hrel
    obtain ⟨A3, c3, hv3⟩ := hS.arr_form
    subst hv3
    have d1 : wr.cell? ⟨b, 1, none⟩ = some (.slice A L.length c) := cell_heap hS.pull2.heap rfl
    by_cases hlt : k < L.length
    · obtain ⟨x, hxk⟩ : ∃ x, L[k]? = some x := ⟨_, List.getElem?_eq_getElem hlt⟩
      obtain ⟨g, rfl, _, hc⟩ := hS.pull3.arr_at Fct.enc_length rfl hxk
      have hltz : (k : Int) < L.length := by omega
      have hks := keep_snoc (fun f => !endsBy now f) hxk
      have hkl := keep_le L k (fun f => !endsBy now f)
      have dd := hc 18 _ x.at18
      have dn := hc 0 (.string x.key.name) rfl
      rw [Nat.add_zero] at dn
      have hl9 : (Instr.loadAt 99 (.pointer (some ⟨g, k * 19, none⟩))).run Tryd.prog wr = .ok (.agg x.enc.toArray) wr :=
        run_loadAt_cells Tryd.underlying99 rfl (by rw [Fct.enc_length]; kernel_rfl) (fun j u hu => by rw [Addr.add_lit]; exact hc j u hu)
      obtain ⟨z, hz1, hz2, hz3⟩ := fct_zero
      have hY := hS.alloc_ (.cells x.enc.toArray 99)
      obtain ⟨v6, w6, hrun, hS6⟩ := hY.append (m := 1) (news := x.enc) (t := 100) (ty := 100) (P := Tryd.prog) (x := .slice (some ⟨wr.heap.size, 0, none⟩) 1 1) Tryd.underlying100 hz1 hz3 (by decide) reads_new (by rw [Fct.enc_length]) x.enc_one (by unfold maxLen; omega) (by omega)
      have HFO := Lib.hid (And.intro x.enc_one x.enc_length)
      obtain ⟨A6, c6, rfl⟩ := hS6.arr_form
      clear hc hxk hY
      cases hq : endsBy now x with
      | false =>
        rw [hq] at hks
        simp only [Bool.not_false, if_true] at hks
        have hfm : ((L.take k).filter fun f => !endsBy now f).flatMap Fct.enc ++ x.enc = ((L.take (k + 1)).filter fun f => !endsBy now f).flatMap Fct.enc := by rw [hks, List.flatMap_append]; simp
        have hlen : ((L.take (k + 1)).filter fun f => !endsBy now f).length = ((L.take k).filter fun f => !endsBy now f).length + 1 := by rw [hks]; simp
        rw [hfm] at hS6
        have HN := Lib.hid hlen
        have HYL : Hid ((Value.agg x.enc.toArray).cells.size = 19) := Lib.hid (by simp [Value.cells, HFO.out.2])
        have hgt : now < x.due := by have := of_decide_eq_false hq; omega
        clear hks hfm hlen hq hS
        generalize x.enc.toArray = Y at *
        generalize x.due = xd at *
        generalize x.key.name = xn at *
        generalize ((L.take k).filter fun f => !endsBy now f).length = kl at *
        go_wp2_with (refine wpList_load_run (t := 99) rfl rfl rfl hl9 (stop_ ?_))
        unfold Stop
        go_simp
        refine wpList_buildSlice_one (v := .agg Y) (sz := 19) rfl rfl rfl Tryd.underlying100 hz2 HYL.out (by decide) (by decide) ?_
        go_simp
        refine wpList_append_run rfl _ _ _ rfl rfl rfl hrun ?_
        go_wp2_with fail
        go_roundw
        case rel => exact ⟨k + 1, by omega, by go_num, by rw [HN.out]; exact hS6⟩
        case measure => simp [intOf]; omega
      | true =>
        rw [hq] at hks
        simp only [Bool.not_true, Bool.false_eq_true, if_false, List.append_nil] at hks
        have HN := Lib.hid hks
        have hgt : ¬ now < x.due := by have := of_decide_eq_true hq; omega
        clear hks hq hrun hS6
        generalize x.due = xd at *
        generalize x.key.name = xn at *
        go_wp2_with fail
        go_roundw
        case rel => exact ⟨k + 1, by omega, by go_num, by rw [HN.out]; exact hS⟩
        case measure => simp [intOf]; omega
    · obtain rfl : k = L.length := by omega
      have hltz : ¬ (L.length : Int) < L.length := by omega
      rw [List.take_length] at hS ⊢
      obtain ⟨w7, hr7, hS7⟩ := one_store (o := 1) (ty := 100) (u := .slice A3 (L.filter fun f => !endsBy now f).length c3) hS.pull2 (by kernel_rfl) (by simp) rfl rfl
      have hfl : (L.filter fun f => !endsBy now f).length ≤ L.length := List.length_filter_le _ _
      have hend : Sat B w0 w7 (fref b n (L.filter fun f => !endsBy now f) • F) := by
        refine Sat.fref_shut (v := .slice A3 (L.filter fun f => !endsBy now f).length c3) ?_
        exact (hS7.to (by ac_rfl : _ = arr 99 19 (.slice A L.length c) L.length (L.flatMap Fct.enc) • blk b (.cells (#[Value.int .i64 n, .slice A L.length c].setIfInBounds 1 (.slice A3 (L.filter fun f => !endsBy now f).length c3)) 107) • arr 99 19 (.slice A3 (L.filter fun f => !endsBy now f).length c3) (L.filter fun f => !endsBy now f).length ((L.filter fun f => !endsBy now f).flatMap Fct.enc) • F)).drop
      have HEND := Lib.hid hend
      clear hend hS7 hS
      generalize hkl : (L.filter fun f => !endsBy now f).length = kl at *
      go_wp2_with (refine wpList_store_run (t := 100) rfl rfl rfl rfl hr7 ?_)
      go_ret
      exact ⟨by rw [← hkl]; rfl, HEND.out⟩
set_option maxRecDepth 8000 in
set_option maxHeartbeats 4000000 in
theorem rDrop_any (h : Sat B w0 w (fref b n L • F)) (hl : L.length ≤ 1000) (name : ByteArray) : Calls Tryd.prog 66 #[.pointer (some ⟨b, 0, none⟩), .string name] w fun e w' => e = .returned (.int .i64 ((L.length : Int) - (L.filter fun f => !namedF name f).length)) ∧ Sat B w0 w' (fref b n (L.filter fun f => !namedF name f) • F) := by
  obtain ⟨A, c, hS⟩ := h.fref_open
  have hS0 := arr_nil (e := 99) (sz := 19) hS
  clear hS h
  go_enter Tryd.func66, Tryd.ntmps66
  go_wp2_with fail
  go_loopw [5, 6] (fun v s wr => ∃ k : Nat, k ≤ L.length ∧ s = .int .i64 k ∧ Sat B w0 wr (arr 99 19 v ((L.take k).filter fun f => !namedF name f).length (((L.take k).filter fun f => !namedF name f).flatMap Fct.enc) • blk b (.cells #[.int .i64 n, .slice A L.length c] 107) • arr 99 19 (.slice A L.length c) L.length (L.flatMap Fct.enc) • F)) (fun _ s _ => L.length - (intOf s).toNat)
  case atStart => exact ⟨0, Nat.zero_le _, rfl, by simpa using hS0⟩
  case round =>
    clear hS0
    obtain ⟨k, hk, rfl, hS⟩ := hrel
    obtain ⟨A3, c3, hv3⟩ := hS.arr_form
    subst hv3
    have d1 : wr.cell? ⟨b, 1, none⟩ = some (.slice A L.length c) := cell_heap hS.pull2.heap rfl
    by_cases hlt : k < L.length
    · obtain ⟨x, hxk⟩ : ∃ x, L[k]? = some x := ⟨_, List.getElem?_eq_getElem hlt⟩
      obtain ⟨g, rfl, _, hc⟩ := hS.pull3.arr_at Fct.enc_length rfl hxk
      have hltz : (k : Int) < L.length := by omega
      have hks := keep_snoc (fun f => !namedF name f) hxk
      have hkl := keep_le L k (fun f => !namedF name f)
      have dd := hc 18 _ x.at18
      have dn := hc 0 (.string x.key.name) rfl
      rw [Nat.add_zero] at dn
      have hl9 : (Instr.loadAt 99 (.pointer (some ⟨g, k * 19, none⟩))).run Tryd.prog wr = .ok (.agg x.enc.toArray) wr :=
        run_loadAt_cells Tryd.underlying99 rfl (by rw [Fct.enc_length]; kernel_rfl) (fun j u hu => by rw [Addr.add_lit]; exact hc j u hu)
      obtain ⟨z, hz1, hz2, hz3⟩ := fct_zero
      have hY := hS.alloc_ (.cells x.enc.toArray 99)
      obtain ⟨v6, w6, hrun, hS6⟩ := hY.append (m := 1) (news := x.enc) (t := 100) (ty := 100) (P := Tryd.prog) (x := .slice (some ⟨wr.heap.size, 0, none⟩) 1 1) Tryd.underlying100 hz1 hz3 (by decide) reads_new (by rw [Fct.enc_length]) x.enc_one (by unfold maxLen; omega) (by omega)
      have HFO := Lib.hid (And.intro x.enc_one x.enc_length)
      obtain ⟨A6, c6, rfl⟩ := hS6.arr_form
      clear hc hxk hY
      cases hq : namedF name x with
      | false =>
        rw [hq] at hks
        simp only [Bool.not_false, if_true] at hks
        have hfm : ((L.take k).filter fun f => !namedF name f).flatMap Fct.enc ++ x.enc = ((L.take (k + 1)).filter fun f => !namedF name f).flatMap Fct.enc := by rw [hks, List.flatMap_append]; simp
        have hlen : ((L.take (k + 1)).filter fun f => !namedF name f).length = ((L.take k).filter fun f => !namedF name f).length + 1 := by rw [hks]; simp
        rw [hfm] at hS6
        have HN := Lib.hid hlen
        have HYL : Hid ((Value.agg x.enc.toArray).cells.size = 19) := Lib.hid (by simp [Value.cells, HFO.out.2])
        have hb1 : (x.key.name.toList == name.toList) = false := (strl _ _).trans hq
        clear hks hfm hlen hq hS
        generalize x.enc.toArray = Y at *
        generalize x.due = xd at *
        generalize x.key.name = xn at *
        generalize ((L.take k).filter fun f => !namedF name f).length = kl at *
        go_wp2_with (refine wpList_load_run (t := 99) rfl rfl rfl hl9 (stop_ ?_))
        unfold Stop
        go_simp
        refine wpList_buildSlice_one (v := .agg Y) (sz := 19) rfl rfl rfl Tryd.underlying100 hz2 HYL.out (by decide) (by decide) ?_
        go_simp
        refine wpList_append_run rfl _ _ _ rfl rfl rfl hrun ?_
        go_wp2_with fail
        go_roundw
        case rel => exact ⟨k + 1, by omega, by go_num, by rw [HN.out]; exact hS6⟩
        case measure => simp [intOf]; omega
      | true =>
        rw [hq] at hks
        simp only [Bool.not_true, Bool.false_eq_true, if_false, List.append_nil] at hks
        have HN := Lib.hid hks
        have hb1 : (x.key.name.toList == name.toList) = true := (strl _ _).trans hq
        clear hks hq hrun hS6
        generalize x.due = xd at *
        generalize x.key.name = xn at *
        go_wp2_with fail
        go_roundw
        case rel => exact ⟨k + 1, by omega, by go_num, by rw [HN.out]; exact hS⟩
        case measure => simp [intOf]; omega
    · obtain rfl : k = L.length := by omega
      have hltz : ¬ (L.length : Int) < L.length := by omega
      rw [List.take_length] at hS ⊢
      obtain ⟨w7, hr7, hS7⟩ := one_store (o := 1) (ty := 100) (u := .slice A3 (L.filter fun f => !namedF name f).length c3) hS.pull2 (by kernel_rfl) (by simp) rfl rfl
      have hfl : (L.filter fun f => !namedF name f).length ≤ L.length := List.length_filter_le _ _
      have hend : Sat B w0 w7 (fref b n (L.filter fun f => !namedF name f) • F) := by
        refine Sat.fref_shut (v := .slice A3 (L.filter fun f => !namedF name f).length c3) ?_
        exact (hS7.to (by ac_rfl : _ = arr 99 19 (.slice A L.length c) L.length (L.flatMap Fct.enc) • blk b (.cells (#[Value.int .i64 n, .slice A L.length c].setIfInBounds 1 (.slice A3 (L.filter fun f => !namedF name f).length c3)) 107) • arr 99 19 (.slice A3 (L.filter fun f => !namedF name f).length c3) (L.filter fun f => !namedF name f).length ((L.filter fun f => !namedF name f).flatMap Fct.enc) • F)).drop
      have HEND := Lib.hid hend
      clear hend hS7 hS
      generalize hkl : (L.filter fun f => !namedF name f).length = kl at *
      go_wp2_with (refine wpList_store_run (t := 100) rfl rfl rfl rfl hr7 ?_)
      go_ret
      exact ⟨by rw [← hkl]; rfl, HEND.out⟩
end
end Go.Proofs.YtepaanpdjadakaaDoor
