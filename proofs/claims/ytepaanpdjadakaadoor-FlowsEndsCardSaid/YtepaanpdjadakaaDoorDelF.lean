import Derived.Test.YtepaanpdjadakaaDoorTab
import Derived.Shelf.Abstract
import Derived.IntWalk
/-! slices.IndexFunc, slices.DeleteFunc at a struct, and a predicate that acts. -/
namespace Go.Proofs.YtepaanpdjadakaaDoor
open Go Go.RowKit

section
variable {B : Nat} {w0 w w' : World} {F : HP} {β : Type} {enc : β → List Value} {p : β → Bool} {l : List β} {g : Nat} {lb : Array Value} {v : Value}
set_option maxRecDepth 8000 in
set_option maxHeartbeats 4000000 in
theorem indexF_any (hsz : ∀ x, (enc x).length = 19) (eg : ∀ args w, (callFunc g args).run Tryd.prog w = .ok (.enter g args) w) (A : Nat → HP) (hn : l.length ≤ 1000)
    (hR : ∀ k W, k ≤ l.length → Sat B w0 W (A k) → Reads W v l.length (l.flatMap enc))
    (hp : ∀ k x W, l[k]? = some x → Sat B w0 W (A k) → Calls Tryd.prog g (#[.agg (enc x).toArray] ++ lb) W fun e w' => e = .returned (.bool (p x)) ∧ Sat B w0 w' (A (k + 1)))
    (h : Sat B w0 w (A 0)) :
    Calls Tryd.prog 156 #[v, .func (.func g) #[] lb] w fun e w' => e = .returned (.int .i64 (plc p l)) ∧ Sat B w0 w' (A (stopOf p l)) := by
  obtain ⟨A0, c0, rfl⟩ := (hR 0 w (Nat.zero_le _) h).len
  have HR := Lib.hid hR
  have HP := Lib.hid hp
  have HZ := Lib.hid hsz
  clear hR hp hsz
  go_enter Tryd.func156, Tryd.ntmps156
  go_wp2_with fail
  go_loopw [5, 8] (fun _ s wr => ∃ k : Nat, k ≤ l.length ∧ s = .int .i64 k ∧ Sat B w0 wr (A k) ∧ Hid (∀ j y, j < k → l[j]? = some y → p y = false)) (fun _ s _ => l.length - (intOf s).toNat)
  case atStart => exact ⟨0, Nat.zero_le _, rfl, h, Lib.hid fun j y hj => absurd hj (Nat.not_lt_zero _)⟩
  case round =>
    clear h
    obtain ⟨k, hk, rfl, hS, HK⟩ := hrel
    by_cases hlt : k < l.length
    · obtain ⟨x, hxk⟩ : ∃ x, l[k]? = some x := ⟨_, List.getElem?_eq_getElem hlt⟩
      obtain ⟨a, ca, hva, hc⟩ := (HR.out k wr hk hS).elem HZ.out hxk
      cases hva
      have hl : (Instr.loadAt 180 (.pointer (some (a.add (k * 19))))).run Tryd.prog wr = .ok (.agg (enc x).toArray) wr :=
        run_loadAt_cells Tryd.underlying180 rfl (by rw [HZ.out]; kernel_rfl) (fun j u hu => by rw [add_add']; exact hc j u hu)
      have hcall := HP.out k x wr hxk hS
      have hltz : (k : Int) < l.length := by omega
      have HX := Lib.hid hxk
      clear hxk hS hc
      generalize henc : (enc x).toArray = X at *
      clear henc
      cases hq : p x with
      | true =>
        rw [hq] at hcall
        have HQ := Lib.hid hq
        clear hq
        go_wp2_with (first | (refine wpList_load_run (t := 180) rfl rfl rfl hl ?_) | (go_at_fn g; refine hcall.mono ?_; rintro e w2 ⟨rfl, hS2⟩))
        go_ret
        rw [plc_hit HX.out HQ.out HK.out, stop_hit HX.out HQ.out HK.out]
        exact ⟨rfl, hS2⟩
      | false =>
        rw [hq] at hcall
        have HQ := Lib.hid hq
        clear hq
        go_wp2_with (first | (refine wpList_load_run (t := 180) rfl rfl rfl hl ?_) | (go_at_fn g; refine hcall.mono ?_; rintro e w2 ⟨rfl, hS2⟩))
        go_roundw
        case rel => exact ⟨k + 1, by omega, by go_num, hS2, Lib.hid (plc_next HK.out HX.out HQ.out)⟩
        case measure => simp [intOf]; omega
    · obtain rfl : k = l.length := by omega
      go_wp2_with fail
      go_ret
      rw [plc_done HK.out (Nat.le_refl _), stop_miss HK.out]
      exact ⟨rfl, hS⟩
theorem fitem_info : (Tryd.prog.info? 180).map (·.size) = some 19 := by kernel_rfl
theorem fitem_zero : ∃ z, (∀ w, (zeroValue 180).run Tryd.prog w = .ok z w) ∧ z.cells.size = 19 ∧ z.cells.toList.all (·.oneCell') = true := by
  obtain ⟨i, hi, hz⟩ := Option.map_eq_some_iff.1 (show (Tryd.prog.info? 180).map (fun i => (i.zero.map fun z => (z.cells.size, z.cells.toList.all (·.oneCell')))) = some (some (19, true)) by kernel_rfl)
  obtain ⟨z, hz1, hz2⟩ := Option.map_eq_some_iff.1 hz
  simp only [Prod.mk.injEq] at hz2
  refine ⟨z, fun w => ?_, hz2.1, hz2.2⟩
  simp [zeroValue, typeInfo, hi, hz1]
set_option maxRecDepth 8000 in
set_option maxHeartbeats 8000000 in
theorem deleteF_any (hsz : ∀ x, (enc x).length = 19) (h1 : ∀ x, ∀ u ∈ enc x, u.oneCell' = true) (eg : ∀ args w, (callFunc g args).run Tryd.prog w = .ok (.enter g args) w) (A : Nat → HP) (hn : l.length ≤ 1000)
    (hp : ∀ k x W G, l[k]? = some x → Sat B w0 W (A k • G) → Calls Tryd.prog g (#[.agg (enc x).toArray] ++ lb) W fun e w' => e = .returned (.bool (p x)) ∧ Sat B w0 w' (A (k + 1) • G))
    (h : Sat B w0 w (arr 180 19 v l.length (l.flatMap enc) • A 0)) :
    Calls Tryd.prog 145 #[v, .func (.func g) #[] lb] w fun e w' => ∃ v', e = .returned v' ∧ Sat B w0 w' (arr 180 19 v' (l.filter fun x => !p x).length ((l.filter fun x => !p x).flatMap enc) • A l.length) := by
  have c1 := indexF_any (B := B) (w0 := w0) (p := p) (v := v) hsz eg (fun k => A k • arr 180 19 v l.length (l.flatMap enc)) hn (fun k W _ hS => hS.swap.arr_reads) (fun k x W hx hS => hp k x W _ hx hS) h.swap
  obtain ⟨A0, c0, rfl⟩ := h.arr_form
  rcases plc_cases p l with ⟨e1, hno⟩ | ⟨k, x, hx, hpx, e1, hfirst⟩
  · rw [e1] at c1
    have hst : stopOf p l = l.length := stop_miss fun j y _ hy => hno y (List.mem_of_getElem? hy)
    rw [hst] at c1
    rw [filter_none hno]
    clear hno e1 hst h hp hsz h1
    go_enter Tryd.func145, Tryd.ntmps145
    go_wp2_with fail
    refine c1.mono ?_
    rintro e w1 ⟨rfl, hS1⟩
    go_wp2_with fail
    go_ret
    exact ⟨_, rfl, hS1.swap⟩
  · rw [e1, stop_hit hx hpx hfirst] at c1
    have hkl := (List.getElem?_eq_some_iff.1 hx).1
    have hc0 : ∃ c : List β, c.length = l.length ∧ c.take k = (l.take (k + 1)).filter (fun x => !p x) ∧ c.drop (k + 1) = l.drop (k + 1) ∧ c = l := by
      refine ⟨l, rfl, ?_, rfl, rfl⟩
      have := (stay_down (i := k) (c := l) (p := p) (j := k) (take_none hfirst).symm rfl hx hpx).1
      exact this
    obtain ⟨cl, hcl, hc1, hc2, hce⟩ := hc0
    have hkb : ((k : Int) == -1) = false := by rw [beq_eq_false_iff_ne]; omega
    have H0 := Lib.hid (And.intro hc1 hc2)
    have HZ := Lib.hid hsz
    have H1 := Lib.hid h1
    have HP := Lib.hid hp
    have HE := Lib.hid hce
    clear e1 hx hpx hfirst hc1 hc2 hsz h1 hp hce h
    go_enter Tryd.func145, Tryd.ntmps145
    go_wp2_with fail
    refine c1.mono ?_
    rintro e w1 ⟨rfl, hS1⟩
    have hS1' : Sat B w0 w1 (arr 180 19 (.slice A0 l.length c0) l.length (cl.flatMap enc) • A (k + 1)) := by rw [HE.out]; exact hS1.swap
    clear c1 hS1
    go_wp2_with fail
    go_loopw [5, 6, 7] (fun s5 s6 _ wr => ∃ (i j : Nat) (c : List β), i < j ∧ j ≤ l.length ∧ c.length = l.length ∧ s5 = .int .i64 i ∧ s6 = .int .i64 j ∧ Sat B w0 wr (arr 180 19 (.slice A0 l.length c0) l.length (c.flatMap enc) • A j) ∧ Hid (c.take i = (l.take j).filter (fun x => !p x) ∧ c.drop j = l.drop j)) (fun _ s6 _ _ => l.length - (intOf s6).toNat)
    case atStart => exact ⟨k, k + 1, cl, by omega, by omega, hcl, rfl, by go_num, hS1', H0⟩
    case round =>
      clear hS1' H0 hcl HE
      obtain ⟨i, j, c, hij, hj, hcl, rfl, rfl, hS, HK⟩ := hrel
      by_cases hlt : j < l.length
      · obtain ⟨x, hxj⟩ : ∃ x, l[j]? = some x := ⟨_, List.getElem?_eq_getElem hlt⟩
        have hcx : c[j]? = some x := by
          have := congrArg (fun z => z[0]?) HK.out.2
          simp only [List.getElem?_drop, Nat.add_zero] at this
          rw [this, hxj]
        have hltz : (j : Int) < l.length := by omega
        rcases hS.arr_open with ⟨_, h0, _, _⟩ | ⟨b, cap, cur, hv, q1, q2, q3, q4, hO⟩
        · omega
        simp only [Value.slice.injEq] at hv
        obtain ⟨rfl, _, rfl⟩ := hv
        have hl : (Instr.loadAt 180 (.pointer (some ⟨b, j * 19, none⟩))).run Tryd.prog wr = .ok (.agg (enc x).toArray) wr :=
          run_loadAt_row hO.heap Tryd.underlying180 rfl (by rw [HZ.out]; kernel_rfl) (fun m u hu => cur_at HZ.out q4 hcx m u hu)
        have hst : ∀ (W : World) (z : Array Value), z.size = 19 → (Instr.storeAt 180 (.pointer (some ⟨W.heap.size, 0, none⟩)) (.agg (enc x).toArray)).run Tryd.prog (W.alloc (.cells z 180)) = .ok () (W.alloc (.cells (enc x).toArray 180)) :=
          fun W z hz => run_storeAt_new (v := .agg (enc x).toArray) (by simp only [Value.cells, List.size_toArray, HZ.out]; kernel_rfl) (by simp only [Value.cells, List.size_toArray, HZ.out]; exact hz) (by simpa [Value.cells] using H1.out x)
        have hl2 : ∀ W : World, (Instr.loadAt 180 (.pointer (some ⟨W.heap.size, 0, none⟩))).run Tryd.prog (W.alloc (.cells (enc x).toArray 180)) = .ok (.agg (enc x).toArray) (W.alloc (.cells (enc x).toArray 180)) :=
          fun W => run_loadAt_row (heap_alloc_new _ _) Tryd.underlying180 rfl (by rw [HZ.out]; kernel_rfl) (fun j u hu => by simpa using hu)
        have hX := hO.alloc (.cells (enc x).toArray 180)
        have hcall := HP.out j x _ (blk wr.heap.size (.cells (enc x).toArray 180) • blk b (.cells cur 180 (0, 0))) hxj (hX.to (by ac_rfl : _ = A j • blk wr.heap.size (.cells (enc x).toArray 180) • blk b (.cells cur 180 (0, 0))))
        have HX := Lib.hid hxj
        have Q4 := Lib.hid q4
        have HS := Lib.hid hS
        clear hxj hcx hS hO hX q4
        cases hq : p x with
        | true =>
          rw [hq] at hcall
          have hsd := stay_down HK.out.1 HK.out.2 HX.out hq
          have HD := Lib.hid hsd
          clear hq hsd
          go_wp2_with (first | (refine wpList_load_run (t := 180) rfl rfl rfl hl ?_) | (refine wpList_store_run (t := 180) rfl rfl rfl rfl (hst _ _ rfl) ?_) | (refine wpList_load_run (t := 180) rfl rfl rfl (hl2 _) ?_) | (go_at_fn g; refine hcall.mono ?_; rintro e w2 ⟨rfl, hS2⟩))
          go_roundw
          case rel =>
            refine ⟨i, j + 1, c, by omega, by omega, hcl, rfl, by go_num, ?_, HD⟩
            exact Sat.arr_shut q1 q2 q3 Q4.out (hS2.to (by ac_rfl : _ = blk wr.heap.size (.cells (enc x).toArray 180) • blk b (.cells cur 180 (0, 0)) • A (j + 1))).drop
          case measure => simp [intOf]; omega
        | false =>
          rw [hq] at hcall
          have hsd := move_down hcl HK.out.1 HK.out.2 (by omega) HX.out hq
          have HD := Lib.hid hsd
          clear hq hsd
          go_wp2_with (first | (refine wpList_load_run (t := 180) rfl rfl rfl hl ?_) | (refine wpList_store_run (t := 180) rfl rfl rfl rfl (hst _ _ rfl) ?_) | (refine wpList_load_run (t := 180) rfl rfl rfl (hl2 _) ?_) | (go_at_fn g; refine hcall.mono ?_; rintro e w2 ⟨rfl, hS2⟩; refine stop_ ?_))
          unfold Stop
          have hY := hS2.to (by ac_rfl : _ = blk wr.heap.size (.cells (enc x).toArray 180) • blk b (.cells cur 180 (0, 0)) • A (j + 1))
          have hl3 := run_loadAt_row (P := Tryd.prog) (o := 0) (ty := 180) (cs := enc x) hY.heap Tryd.underlying180 rfl (by rw [HZ.out]; kernel_rfl) (fun j u hu => by simpa using hu)
          have hij2 : i * 19 + 19 ≤ cur.size := by
            have := Nat.mul_le_mul_right 19 (show i + 1 ≤ c0 by omega)
            rw [Nat.add_mul] at this; omega
          have hs4 := run_storeAt_row (P := Tryd.prog) (o := i * 19) (ty := 180) (v := .agg (enc x).toArray) hY.drop.heap (by simp only [Value.cells, List.size_toArray, HZ.out]; kernel_rfl) (by simp only [Value.cells, List.size_toArray, HZ.out]; exact hij2) (by simpa [Value.cells] using H1.out x)
          have hY2 := hY.drop.setRow (cs := splice cur (i * 19) (enc x))
          simp only [Value.cells] at hs4
          have htk := take_splice_set HZ.out (by decide) Q4.out hcl (by rw [q3]; exact Nat.mul_le_mul_right _ q1) (show i < l.length by omega) x
          have hsp := splice_size (cur := cur) (o := i * 19) (vs := enc x) (by rw [HZ.out]; exact hij2)
          have HY2 := Lib.hid (Sat.arr_shut q1 q2 (hsp.trans q3) htk hY2)
          clear hcall hS2 hY hY2 htk hsp hst hl hl2
          generalize w2.setRow b (splice cur (i * 19) (enc x)) = W4 at *
          have hiz : (i : Int) < l.length := by omega
          go_wp2_with (first | (refine wpList_load_run (t := 180) rfl rfl rfl hl3 ?_) | (refine wpList_store_run (t := 180) rfl rfl rfl rfl hs4 ?_))
          go_roundw
          case rel => exact ⟨i + 1, j + 1, c.set i x, by omega, by omega, HD.out.2.2, by go_num, by go_num, HY2.out, Lib.hid ⟨HD.out.1, HD.out.2.1⟩⟩
          case measure => simp [intOf]; omega
      · obtain rfl : j = l.length := by omega
        obtain ⟨e1, _⟩ := HK.out
        rw [List.take_length] at e1
        rcases hS.arr_open with ⟨_, h0, _, _⟩ | ⟨b, cap, cur, hv, q1, q2, q3, q4, hO⟩
        · omega
        simp only [Value.slice.injEq] at hv
        obtain ⟨rfl, _, rfl⟩ := hv
        obtain ⟨z, hz1, hz2, hz3⟩ := fitem_zero
        obtain ⟨w3, cur3, hr3, hO3, hs3, ht3⟩ := hO.run_clear_tail (P := Tryd.prog) (i := i) (t := 176) (ty := 0) Tryd.underlying176 hz1 hz2 (by decide) (fun u hu => List.all_eq_true.1 hz3 u hu) (by omega) q1 q3
        have htl := run_tail (P := Tryd.prog) (w := wr) (t := 176) (e := 180) (g := b) (sz := 19) (k := i) (n := l.length) (c := c0) (kd := .i64) Tryd.underlying176 fitem_info (by omega) q1
        have hhd := run_head (P := Tryd.prog) (w := w3) (t := 176) (e := 180) (sz := 19) (k := i) (n := l.length) (c := c0) (kd := .i64) (A := some ⟨b, 0, none⟩) Tryd.underlying176 fitem_info (by omega)
        have hil : (l.filter fun x => !p x).length = i := by rw [← e1, List.length_take]; omega
        have hfin : Sat B w0 w3 (arr 180 19 (.slice (some ⟨b, 0, none⟩) i c0) (l.filter fun x => !p x).length ((l.filter fun x => !p x).flatMap enc) • A l.length) := by
          rw [hil]
          refine Sat.arr_shut (by omega) q2 (hs3.trans q3) ?_ hO3
          rw [ht3]
          have h5 : cur.toList.take (i * 19) = (cur.toList.take (l.length * 19)).take (i * 19) := by
            rw [List.take_take, Nat.min_eq_left (Nat.mul_le_mul_right _ (by omega))]
          rw [h5, q4, ← e1]
          have h6 : c.flatMap enc = (c.take i).flatMap enc ++ (c.drop i).flatMap enc := by rw [← List.flatMap_append, List.take_append_drop]
          rw [h6, List.take_left']
          rw [flat_length HZ.out, List.length_take]; congr 1; omega
        have HF := Lib.hid hfin
        clear hfin hil e1 hO3 hO hs3 ht3 q3 q4 hS hz1 hz2 hz3
        go_wp2_with fail
        go_ret
        exact ⟨_, rfl, HF.out⟩
end
end Go.Proofs.YtepaanpdjadakaaDoor
