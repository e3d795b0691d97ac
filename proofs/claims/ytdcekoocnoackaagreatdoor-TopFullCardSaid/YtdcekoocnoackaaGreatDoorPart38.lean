import Derived.Test.YtdcekoocnoackaaGreatDoorPart37
import Derived.Test.YtdcekoocnoackaaGreatDoorPart33
import Derived.LaidEqlPtr
import Derived.Test.YtdcekoocnoackaaGreatDoorPart14
import Derived.Shelf.Abstract
import Derived.IntWalk
import Derived.Test.YtdcekoocnoackaaGreatDoorPart32
import Derived.Test.YtdcekoocnoackaaGreatDoorPart12
import Derived.Test.YtdcekoocnoackaaGreatDoorPart05
import Derived.Lib.Hide
import Derived.Deep.QuietTactic
import Derived.BigQuiet
import Derived.Lib.MinMax

/-! slices.IndexFunc, slices.DeleteFunc at pointers to flows. -/
namespace Go.Proofs.YtdcekoocnoackaaGreatDoor
open Go Go.RowKit

section
variable {B : Nat} {w0 w w' : World} {A : HP} {p : FIt → Bool} {l : List FIt} {g : Nat} {lb : Array Value} {v : Value}
set_option maxRecDepth 8000 in
set_option maxHeartbeats 4000000 in
theorem indexW_any (eg : ∀ args w, (callFunc g args).run Tryz.prog w = .ok (.enter g args) w) (hn : l.length ≤ 1000)
    (hp : ∀ x W G, x ∈ l → Sat B w0 W (A • G) → Calls Tryz.prog g (#[.pointer (some ⟨x.key.p, 0, none⟩)] ++ lb) W fun e w' => e = .returned (.bool (p x)) ∧ Sat B w0 w' (A • G))
    (h : Sat B w0 w (arr 151 1 v l.length (l.flatMap ptrC) • A)) :
    Calls Tryz.prog 173 #[v, .func (.func g) #[] lb] w fun e w' => e = .returned (.int .i64 (plc p l)) ∧ Sat B w0 w' (arr 151 1 v l.length (l.flatMap ptrC) • A) := by
  obtain ⟨A0, c0, rfl⟩ := h.arr_form
  have HP := Lib.hid hp
  clear hp
  go_enter Tryz.func173, Tryz.ntmps173
  go_wp2_with fail
  go_loopw [5, 8] (fun _ s wr => ∃ k : Nat, k ≤ l.length ∧ s = .int .i64 k ∧ Sat B w0 wr (arr 151 1 (.slice A0 l.length c0) l.length (l.flatMap ptrC) • A) ∧ Hid (∀ j y, j < k → l[j]? = some y → p y = false)) (fun _ s _ => l.length - (intOf s).toNat)
  case atStart => exact ⟨0, Nat.zero_le _, rfl, h, Lib.hid fun j y hj => absurd hj (Nat.not_lt_zero _)⟩
  case round =>
    clear h
    obtain ⟨k, hk, rfl, hS, HK⟩ := hrel
    by_cases hlt : k < l.length
    · obtain ⟨x, hxk⟩ : ∃ x, l[k]? = some x := ⟨_, List.getElem?_eq_getElem hlt⟩
      obtain ⟨b, rfl, _, hc⟩ := hS.arr_at ptrC_length rfl hxk
      have dp := hc 0 (.pointer (some ⟨x.key.p, 0, none⟩)) rfl
      rw [Nat.mul_one, Nat.add_zero] at dp
      have hcall := HP.out x wr _ (List.mem_of_getElem? hxk) hS.swap
      have hltz : (k : Int) < l.length := by omega
      have HX := Lib.hid hxk
      clear hxk hS hc
      generalize x.key.p = xp at *
      cases hq : p x with
      | true =>
        rw [hq] at hcall
        have HQ := Lib.hid hq
        clear hq
        go_wp2_with (go_at_fn g; refine hcall.mono ?_; rintro e w2 ⟨rfl, hS2⟩)
        go_ret
        rw [plc_hit HX.out HQ.out HK.out]
        exact ⟨rfl, hS2.swap⟩
      | false =>
        rw [hq] at hcall
        have HQ := Lib.hid hq
        clear hq
        go_wp2_with (go_at_fn g; refine hcall.mono ?_; rintro e w2 ⟨rfl, hS2⟩)
        go_roundw
        case rel => exact ⟨k + 1, by omega, by go_num, hS2.swap, Lib.hid (plc_next HK.out HX.out HQ.out)⟩
        case measure => simp [intOf]; omega
    · obtain rfl : k = l.length := by omega
      have hltz : ¬ (l.length : Int) < l.length := by omega
      go_wp2_with fail
      go_ret
      rw [plc_done HK.out (Nat.le_refl _)]
      exact ⟨rfl, hS⟩
theorem witem_info : (Tryz.prog.info? 151).map (·.size) = some 1 := by kernel_rfl
theorem witem_zero : ∃ z, (∀ w, (zeroValue 151).run Tryz.prog w = .ok z w) ∧ z.cells.size = 1 ∧ z.cells.toList.all (·.oneCell') = true := by
  obtain ⟨i, hi, hz⟩ := Option.map_eq_some_iff.1 (show (Tryz.prog.info? 151).map (fun i => (i.zero.map fun z => (z.cells.size, z.cells.toList.all (·.oneCell')))) = some (some (1, true)) by kernel_rfl)
  obtain ⟨z, hz1, hz2⟩ := Option.map_eq_some_iff.1 hz
  simp only [Prod.mk.injEq] at hz2
  refine ⟨z, fun w => ?_, hz2.1, hz2.2⟩
  simp [zeroValue, typeInfo, hi, hz1]
set_option maxRecDepth 8000 in
set_option maxHeartbeats 8000000 in
theorem deleteW_any (eg : ∀ args w, (callFunc g args).run Tryz.prog w = .ok (.enter g args) w) (hn : l.length ≤ 1000)
    (hp : ∀ x W G, x ∈ l → Sat B w0 W (A • G) → Calls Tryz.prog g (#[.pointer (some ⟨x.key.p, 0, none⟩)] ++ lb) W fun e w' => e = .returned (.bool (p x)) ∧ Sat B w0 w' (A • G))
    (h : Sat B w0 w (arr 151 1 v l.length (l.flatMap ptrC) • A)) :
    Calls Tryz.prog 108 #[v, .func (.func g) #[] lb] w fun e w' => ∃ v', e = .returned v' ∧ Sat B w0 w' (arr 151 1 v' (l.filter fun x => !p x).length ((l.filter fun x => !p x).flatMap ptrC) • A) := by
  have c1 := indexW_any (p := p) (v := v) eg hn hp h
  obtain ⟨A0, c0, rfl⟩ := h.arr_form
  rcases plc_cases p l with ⟨e1, hno⟩ | ⟨k, x, hx, hpx, e1, hfirst⟩
  · rw [e1] at c1
    rw [filter_none hno]
    clear hno e1 h hp
    go_enter Tryz.func108, Tryz.ntmps108
    go_wp2_with fail
    refine c1.mono ?_
    rintro e w1 ⟨rfl, hS1⟩
    go_wp2_with fail
    go_ret
    exact ⟨_, rfl, hS1⟩
  · rw [e1] at c1
    have hkl := (List.getElem?_eq_some_iff.1 hx).1
    have hc0 : ∃ c : List FIt, c.length = l.length ∧ c.take k = (l.take (k + 1)).filter (fun x => !p x) ∧ c.drop (k + 1) = l.drop (k + 1) ∧ c = l := by
      refine ⟨l, rfl, ?_, rfl, rfl⟩
      have := (stay_down (i := k) (c := l) (p := p) (j := k) (take_none hfirst).symm rfl hx hpx).1
      exact this
    obtain ⟨cl, hcl, hc1, hc2, hce⟩ := hc0
    have hkb : ((k : Int) == -1) = false := by rw [beq_eq_false_iff_ne]; omega
    have H0 := Lib.hid (And.intro hc1 hc2)
    have HP := Lib.hid hp
    have HE := Lib.hid hce
    clear e1 hx hpx hfirst hc1 hc2 hp hce h
    go_enter Tryz.func108, Tryz.ntmps108
    go_wp2_with fail
    refine c1.mono ?_
    rintro e w1 ⟨rfl, hS1⟩
    have hS1' : Sat B w0 w1 (arr 151 1 (.slice A0 l.length c0) l.length (cl.flatMap ptrC) • A) := by rw [HE.out]; exact hS1
    clear c1 hS1
    go_wp2_with fail
    go_loopw [5, 6, 7] (fun s5 s6 _ wr => ∃ (i j : Nat) (c : List FIt), i < j ∧ j ≤ l.length ∧ c.length = l.length ∧ s5 = .int .i64 i ∧ s6 = .int .i64 j ∧ Sat B w0 wr (arr 151 1 (.slice A0 l.length c0) l.length (c.flatMap ptrC) • A) ∧ Hid (c.take i = (l.take j).filter (fun x => !p x) ∧ c.drop j = l.drop j)) (fun _ s6 _ _ => l.length - (intOf s6).toNat)
    case atStart => exact ⟨k, k + 1, cl, by omega, by omega, hcl, rfl, by go_num, hS1', H0⟩
    case round =>
      clear hS1' H0 hcl HE
      obtain ⟨i, j, c, hij, hj, hcl, rfl, rfl, hS, HK⟩ := hrel
      by_cases hlt : j < l.length
      · obtain ⟨x, hxj⟩ : ∃ x, l[j]? = some x := ⟨_, List.getElem?_eq_getElem hlt⟩
        have hcx : c[j]? = some x := by
          have := congrArg (fun z => z[0]?) HK.out.2
          simp only [List.getElem?_drop, Nat.add_zero] at this
          rw [this, hxj]
        have hltz : (j : Int) < l.length := by omega
        rcases hS.arr_open with ⟨_, h0, _, _⟩ | ⟨b, cap, cur, hv, q1, q2, q3, q4, hO⟩
        · omega
        simp only [Value.slice.injEq] at hv
        obtain ⟨rfl, _, rfl⟩ := hv
        have hcu := cur_at ptrC_length q4 hcx 0 _ rfl
        rw [Nat.mul_one, Nat.add_zero] at hcu
        have dp : wr.cell? ⟨b, j, none⟩ = some (.pointer (some ⟨x.key.p, 0, none⟩)) := cell_heap hO.heap hcu
        have hcall := HP.out x wr _ (List.mem_of_getElem? hxj) hO.swap
        have HX := Lib.hid hxj
        have Q4 := Lib.hid q4
        have HS := Lib.hid hS
        clear hxj hcx hS hO q4 hcu
        cases hq : p x with
        | true =>
          rw [hq] at hcall
          have hsd := stay_down HK.out.1 HK.out.2 HX.out hq
          have HD := Lib.hid hsd
          generalize x.key.p = xp at *
          clear hq hsd
          go_wp2_with (go_at_fn g; refine hcall.mono ?_; rintro e w2 ⟨rfl, hS2⟩)
          go_roundw
          case rel =>
            refine ⟨i, j + 1, c, by omega, by omega, hcl, rfl, by go_num, ?_, HD⟩
            exact Sat.arr_shut q1 q2 q3 Q4.out hS2.swap
          case measure => simp [intOf]; omega
        | false =>
          rw [hq] at hcall
          have hsd := move_down hcl HK.out.1 HK.out.2 (by omega) HX.out hq
          have HD := Lib.hid hsd
          clear hq hsd
          have htk := take_splice_set ptrC_length (by decide) Q4.out hcl (by rw [q3]; exact Nat.mul_le_mul_right _ q1) (show i < l.length by omega) x
          have hij2 : i < cur.size := by omega
          have hpc : ptrC x = [.pointer (some ⟨x.key.p, 0, none⟩)] := rfl
          rw [hpc, Nat.mul_one i, splice_one hij2] at htk
          have HTK := Lib.hid htk
          have H3 := Lib.hid q3
          clear htk hpc
          generalize x.key.p = xp at *
          go_wp2_with (go_at_fn g; refine hcall.mono ?_; rintro e w2 ⟨rfl, hS2⟩; refine stop_ ?_)
          unfold Stop
          obtain ⟨W4, hs4, hY2⟩ := one_store (o := i) (ty := 151) (u := .pointer (some ⟨xp, 0, none⟩)) hS2.swap (by kernel_rfl) hij2 rfl rfl
          have HY2 := Lib.hid (Sat.arr_shut q1 q2 (by simpa using H3.out) HTK.out hY2)
          clear hcall hS2 hY2 q3
          have hiz : (i : Int) < l.length := by omega
          go_wp2_with (refine wpList_store_run (t := 151) rfl rfl rfl rfl hs4 ?_)
          go_roundw
          case rel => exact ⟨i + 1, j + 1, c.set i x, by omega, by omega, HD.out.2.2, by go_num, by go_num, HY2.out, Lib.hid ⟨HD.out.1, HD.out.2.1⟩⟩
          case measure => simp [intOf]; omega
      · obtain rfl : j = l.length := by omega
        obtain ⟨e1, _⟩ := HK.out
        rw [List.take_length] at e1
        rcases hS.arr_open with ⟨_, h0, _, _⟩ | ⟨b, cap, cur, hv, q1, q2, q3, q4, hO⟩
        · omega
        simp only [Value.slice.injEq] at hv
        obtain ⟨rfl, _, rfl⟩ := hv
        obtain ⟨z, hz1, hz2, hz3⟩ := witem_zero
        obtain ⟨w3, cur3, hr3, hO3, hs3, ht3⟩ := hO.run_clear_tail (P := Tryz.prog) (i := i) (t := 117) (ty := 0) Tryz.underlying117 hz1 hz2 (by decide) (fun u hu => List.all_eq_true.1 hz3 u hu) (by omega) q1 q3
        have htl := run_tail (P := Tryz.prog) (w := wr) (t := 117) (e := 151) (g := b) (sz := 1) (k := i) (n := l.length) (c := c0) (kd := .i64) Tryz.underlying117 witem_info (by omega) q1
        have hhd := run_head (P := Tryz.prog) (w := w3) (t := 117) (e := 151) (sz := 1) (k := i) (n := l.length) (c := c0) (kd := .i64) (A := some ⟨b, 0, none⟩) Tryz.underlying117 witem_info (by omega)
        have hil : (l.filter fun x => !p x).length = i := by rw [← e1, List.length_take]; omega
        have hfin : Sat B w0 w3 (arr 151 1 (.slice (some ⟨b, 0, none⟩) i c0) (l.filter fun x => !p x).length ((l.filter fun x => !p x).flatMap ptrC) • A) := by
          rw [hil]
          refine Sat.arr_shut (by omega) q2 (hs3.trans q3) ?_ hO3
          rw [ht3]
          have h5 : cur.toList.take (i * 1) = (cur.toList.take (l.length * 1)).take (i * 1) := by
            rw [List.take_take, Nat.min_eq_left (Nat.mul_le_mul_right _ (by omega))]
          rw [h5, q4, ← e1]
          have h6 : c.flatMap ptrC = (c.take i).flatMap ptrC ++ (c.drop i).flatMap ptrC := by rw [← List.flatMap_append, List.take_append_drop]
          rw [h6, List.take_left']
          rw [flat_length ptrC_length, List.length_take]; congr 1; omega
        have HF := Lib.hid hfin
        clear hfin hil e1 hO3 hO hs3 ht3 q3 q4 hS hz1 hz2 hz3
        go_wp2_with fail
        go_ret
        exact ⟨_, rfl, HF.out⟩
end
end Go.Proofs.YtdcekoocnoackaaGreatDoor

/-! Flows: drop, Remove. -/
namespace Go.Proofs.YtdcekoocnoackaaGreatDoor
open Go Go.RowKit

attribute [local irreducible] wpOrd
def isP (p : Nat) (x : FIt) : Bool := decide (x.key.p = p)
theorem cut_same {R : List FIt} {next : Int} {k : Nat} {x : FIt} (hg : Good R next) (hp : (R.map (·.key.p)).Nodup) (hn : KNW R) (h : R[k]? = some x) :
    (R.filter fun y => !isP x.key.p y) = (R.filter fun y => !isW x.key.tup y) ∧ without (ents R) x.id = ents (R.filter fun y => !isW x.key.tup y) := by
  have h1 := cut_filter (key := fun y : FIt => y.key.p) hp h
  have h2 := cut_filter (key := fun y : FIt => y.key.tup) hn h
  have h3 := cut_filter (key := fun y : FIt => y.id) hg.1 h
  refine ⟨h1.symm.trans h2, ?_⟩
  have h4 : without (ents R) x.id = ents (R.filter fun y => !decide (y.id = x.id)) := by
    unfold without ents
    rw [List.filter_map]
    congr 1
  rw [h4, ← h3, h2]
  rfl
section
variable {B : Nat} {w0 w w' : World} {F : HP} {R : List FIt} {t room : Nat} {next : Int}
set_option maxRecDepth 8000 in
theorem dropW1_any {bx px py : Nat} {cx cy : Array Value} (h : Sat B w0 w (blk bx (.cells #[.pointer (some ⟨px, 0, none⟩)] 151) • F)) (hcx : w.heap[px]? = some (.cells cx 153)) (hcy : w.heap[py]? = some (.cells cy 153)) : Calls Tryz.prog 176 #[.pointer (some ⟨py, 0, none⟩), .pointer (some ⟨bx, 0, none⟩)] w fun e w' => e = .returned (.bool (decide (py = px))) ∧ w = w' := by
  have d1 : w.cell? ⟨bx, 0, none⟩ = some (.pointer (some ⟨px, 0, none⟩)) := cell_heap h.heap rfl
  clear h
  obtain ⟨j, hj, hsz⟩ := Option.map_eq_some_iff.1 (show (Tryz.prog.info? 153).map (·.size) = some 41 by kernel_rfl)
  by_cases e : py = px
  · subst e
    rw [decide_eq_true rfl]
    have hr := run_eql_ptr_same (P := Tryz.prog) w ⟨py, 0, none⟩ Tryz.underlying151 hj
    go_enter Tryz.func176, Tryz.ntmps176
    go_wp2_with fail
    go_ret
    exact ⟨rfl, rfl⟩
  · rw [decide_eq_false e]
    have hr := run_eql_ptr_other (P := Tryz.prog) w (a := ⟨px, 0, none⟩) (b := ⟨py, 0, none⟩) Tryz.underlying151 hj (by rw [hsz]; decide) (fun h => e (by cases h; rfl)) hcx hcy
    go_enter Tryz.func176, Tryz.ntmps176
    go_wp2_with fail
    go_ret
    exact ⟨rfl, rfl⟩
set_option maxRecDepth 8000 in
set_option maxHeartbeats 4000000 in
theorem flDrop_any (h : Sat B w0 w (fltab t room R next • F)) (hn : KNW R) {k : Nat} {x : FIt} (hx : R[k]? = some x) : Calls Tryz.prog 114 #[.pointer (some ⟨t, 0, none⟩), .pointer (some ⟨x.key.p, 0, none⟩)] w fun e w' => e = .returned (.tuple #[]) ∧ Sat B w0 w' (fltab t room (R.filter fun y => !isW x.key.tup y) next • F) := by
  have egd : ∀ args w, (callFunc 176 args).run Tryz.prog w = .ok (.enter 176 args) w := enters_of Tryz.func176 (by kernel_rfl) rfl
  obtain ⟨A, c, q, hg, hl1, hl2, hT⟩ := h.fl_open
  have hps := Sat.its_ps R F hT.drop.drop.drop
  obtain ⟨hc1, hc2⟩ := cut_same hg hps hn hx
  have hX := (hT.alloc (.cells #[.pointer (some ⟨x.key.p, 0, none⟩)] 151)).drew
  have hX4 := hX.drop.drop.drop.drop.it_heap hx
  have hC0 : (w.alloc (.cells #[.pointer (some ⟨x.key.p, 0, none⟩)] 151)).drew.cell? ⟨t, 1, none⟩ = some (.pointer (some ⟨q, 0, none⟩)) ∧ (w.alloc (.cells #[.pointer (some ⟨x.key.p, 0, none⟩)] 151)).drew.cell? ⟨w.heap.size, 0, none⟩ = some (.pointer (some ⟨x.key.p, 0, none⟩)) ∧ (w.alloc (.cells #[.pointer (some ⟨x.key.p, 0, none⟩)] 151)).drew.cell? ⟨x.key.p, 40, none⟩ = some (.int .i64 x.id) :=
    ⟨cell_heap hX.pull2.heap rfl, cell_heap hX.heap rfl, cell_heap hX4 (by simpa using flC_id x)⟩
  have c1 := qCancel_any (hX.to (by ac_rfl : _ = queue q room (ents R) • blk w.heap.size (.cells #[.pointer (some ⟨x.key.p, 0, none⟩)] 151) • blk t (.cells #[.slice A R.length c, .pointer (some ⟨q, 0, none⟩), .int .i64 next] 119) • arr 151 1 (.slice A R.length c) R.length (R.flatMap ptrC) • its R F)) x.id
  rw [hc2] at c1
  have HC1 := Lib.hid hc1
  have HG := Lib.hid (hg.sub (List.filter_sublist (p := fun y => !isW x.key.tup y)))
  have hfl : (R.filter fun y => !isW x.key.tup y).length ≤ R.length := List.length_filter_le _ _
  have hRl : R.length ≤ 1000 := by omega
  have hit : ∀ y ∈ R, ∀ W G, Sat B w0 W ((blk w.heap.size (.cells #[.pointer (some ⟨x.key.p, 0, none⟩)] 151) • blk t (.cells #[.slice A R.length c, .pointer (some ⟨q, 0, none⟩), .int .i64 next] 119) • queue q room (ents (R.filter fun y => !isW x.key.tup y)) • its R F) • G) → W.heap[y.key.p]? = some (.cells (flC y).toArray 153) := by
    intro y hy W G hW
    obtain ⟨j, hj⟩ := List.mem_iff_getElem?.1 hy
    exact hW.left.drop.drop.drop.it_heap hj
  have HIT := Lib.hid hit
  have HX := Lib.hid hx
  clear hX4 hX hT h hn hx hps hc1 hc2 hg hl1 hit
  generalize x.key.tup = tu at *
  generalize hpx : x.key.p = px at *
  generalize x.id = xi at *
  generalize hbx : w.heap.size = bx at *
  go_enter Tryz.func114, Tryz.ntmps114
  go_wp2_with fail
  try rw [hbx]
  try go_frame
  refine wp_region_ord [(0, .pure), (1, .pure), (2, .pure), (3, .quiet), (4, .quiet), (5, .pure), (6, .pure), (7, .quiet), (8, .seals)] (by kernel_rfl) (by kernel_rfl)
    (fun w' => w'.cell? ⟨t, 1, none⟩ = some (.pointer (some ⟨q, 0, none⟩)) ∧ w'.cell? ⟨bx, 0, none⟩ = some (.pointer (some ⟨px, 0, none⟩)) ∧ w'.cell? ⟨px, 40, none⟩ = some (.int .i64 xi)) hC0 ?_
  iterate 3 (refine ord_pure rfl rfl rfl (fun K' hK => ?_); go_big_quiet_op; refine hK _ ?_; clear hK K')
  refine ord_load (t := 106) rfl rfl rfl (p := .pointer (some ⟨t, 1, none⟩)) (v := .pointer (some ⟨q, 0, none⟩)) rfl (fun w' hC => load_one Tryz.underlying106 rfl hC.1) (fun K' hK => ?_)
  go_simp
  refine hK _ ?_
  clear hK K'
  refine ord_load (t := 151) rfl rfl rfl (p := .pointer (some ⟨bx, 0, none⟩)) (v := .pointer (some ⟨px, 0, none⟩)) rfl (fun w' hC => load_one Tryz.underlying151 rfl hC.2.1) (fun K' hK => ?_)
  go_simp
  refine hK _ ?_
  clear hK K'
  iterate 2 (refine ord_pure rfl rfl rfl (fun K' hK => ?_); go_big_quiet_op; refine hK _ ?_; clear hK K')
  refine ord_load (t := 3) rfl rfl rfl (p := .pointer (some ⟨px, 40, none⟩)) (v := .int .i64 xi) rfl (fun w' hC => load_one Tryz.underlying3 rfl hC.2.2) (fun K' hK => ?_)
  go_simp
  refine hK _ ?_
  clear hK K'
  refine ord_seals rfl rfl (fun K' hK => ?_)
  go_simp
  refine (c1).mono ?_
  rintro e w3 ⟨rfl, hS3⟩
  refine hK (fun _ => True) _ _ trivial ?_
  clear hK K'
  go_simp
  refine ord_nil ?_
  have cd := deleteW_any (B := B) (w0 := w0) (p := isP px) (l := R) (g := 176) (lb := #[.pointer (some ⟨bx, 0, none⟩)]) (v := .slice A R.length c) (A := blk bx (.cells #[.pointer (some ⟨px, 0, none⟩)] 151) • blk t (.cells #[.slice A R.length c, .pointer (some ⟨q, 0, none⟩), .int .i64 next] 119) • queue q room (ents (R.filter fun y => !isW tu y)) • its R F) egd hRl
    (fun y W G hy hS => (dropW1_any (cx := (flC x).toArray) (cy := (flC y).toArray) (hS.to (by rw [star_assoc])) (by have := HIT.out x (List.mem_of_getElem? HX.out) W G hS; rwa [hpx] at this) (HIT.out y hy W G hS)).mono fun e w' ⟨he, hs⟩ => ⟨he, hs ▸ hS⟩) (hS3.to (by ac_rfl))
  rw [HC1.out] at cd
  have d1 : w3.cell? ⟨t, 0, none⟩ = some (.slice A R.length c) := cell_heap hS3.pull3.heap rfl
  clear hS3 hC0 egd hbx hpx
  go_wp2_with fail
  refine cd.mono ?_
  rintro e w4 ⟨v4, rfl, hS4⟩
  obtain ⟨A4, c4, rfl⟩ := hS4.arr_form
  obtain ⟨w5, hr5, hS5⟩ := one_store (o := 0) (ty := 117) (u := .slice A4 (R.filter fun y => !isW tu y).length c4) hS4.pull3 (by kernel_rfl) (by simp) rfl rfl
  have h6 := hS5.to (by ac_rfl : _ = blk bx (.cells #[.pointer (some ⟨px, 0, none⟩)] 151) • blk t (.cells (#[Value.slice A R.length c, .pointer (some ⟨q, 0, none⟩), .int .i64 next].setIfInBounds 0 (.slice A4 (R.filter fun y => !isW tu y).length c4)) 119) • arr 151 1 (.slice A4 (R.filter fun y => !isW tu y).length c4) (R.filter fun y => !isW tu y).length ((R.filter fun y => !isW tu y).flatMap ptrC) • queue q room (ents (R.filter fun y => !isW tu y)) • its R F)
  have h7 := h6.drop
  rw [← its_star, ← its_star, ← its_star] at h7
  have h8 := Sat.its_filter (fun y => !isW tu y) R _ h7
  rw [its_star, its_star, its_star] at h8
  have HF := Lib.hid (Sat.fl_shut (v := .slice A4 (R.filter fun y => !isW tu y).length c4) (q := q) HG.out h8)
  clear h8 h7 h6 hS5 hS4 cd
  go_wp2_with (refine wpList_store_run (t := 117) rfl rfl rfl rfl hr5 (stop_ ?_))
  unfold Stop
  go_wp2_with fail
  refine bodyPost_end (results_none (by rfl) _ _ _) (by rfl) ?_
  exact ⟨rfl, HF.out⟩
theorem isW_none {q : Tup} (h : R.any (isW q) = false) : (R.filter fun y => !isW q y) = R := by
  rw [List.filter_eq_self]
  intro x hx
  rw [List.any_eq_false] at h
  have := h x hx
  simpa using this
set_option maxRecDepth 8000 in
set_option maxHeartbeats 2000000 in
theorem flRemove_any (h : Sat B w0 w (fltab t room R next • F)) (hn : KNW R) (q : Tup) : Calls Tryz.prog 57 #[.pointer (some ⟨t, 0, none⟩), .agg q.enc.toArray] w fun e w' => e = .returned (.bool (R.any (isW q))) ∧ Sat B w0 w' (fltab t room (R.filter fun y => !isW q y) next • F) := by
  have hX := h.alloc (.cells q.enc.toArray 39)
  have hl1 := run_loadAt_row (P := Tryz.prog) (o := 0) (ty := 39) (cs := q.enc) hX.heap Tryz.underlying39 rfl (by rw [Tup.enc_length]; kernel_rfl) (fun j u hu => by simpa using hu)
  have c1 := flFind_any hX.pull2 q
  clear h hX
  generalize q.enc.toArray = QE at *
  generalize hxb : w.heap.size = xb at *
  rcases ptrAt_cases R q with ⟨h1, h2, _⟩ | ⟨k, x, hx, hxq, h1, h2⟩
  · rw [h2] at c1
    rw [h1, isW_none h1]
    clear h1 h2
    go_enter Tryz.func57, Tryz.ntmps57
    go_wp2_with (refine wpList_load_run (t := 39) rfl rfl rfl hl1 ?_)
    try rw [hxb]
    refine c1.mono ?_
    rintro e w1 ⟨rfl, hS1⟩
    go_wp2_with fail
    go_ret
    exact ⟨rfl, hS1.pull2.drop⟩
  · rw [h2] at c1
    rw [h1]
    have HX := Lib.hid hx
    have HQ := Lib.hid hxq
    clear h1 h2 hx hxq
    go_enter Tryz.func57, Tryz.ntmps57
    go_wp2_with (refine wpList_load_run (t := 39) rfl rfl rfl hl1 ?_)
    try rw [hxb]
    refine c1.mono ?_
    rintro e w1 ⟨rfl, hS1⟩
    have c2 := flDrop_any hS1 hn HX.out
    rw [HQ.out] at c2
    clear c1 hS1 hl1
    generalize x.key.p = px at *
    go_wp2_with fail
    refine c2.mono ?_
    rintro e w2 ⟨rfl, hS2⟩
    go_wp2_with fail
    go_ret
    exact ⟨rfl, hS2.pull2.drop⟩
end
end Go.Proofs.YtdcekoocnoackaaGreatDoor

/-! slices.IndexFunc, slices.DeleteFunc at a struct, and a predicate that acts. -/
namespace Go.Proofs.YtdcekoocnoackaaGreatDoor
open Go Go.RowKit

section
variable {B : Nat} {w0 w w' : World} {F : HP} {β : Type} {enc : β → List Value} {p : β → Bool} {l : List β} {g : Nat} {lb : Array Value} {v : Value}
end
end Go.Proofs.YtdcekoocnoackaaGreatDoor

/-! drop of a table. -/
namespace Go.Proofs.YtdcekoocnoackaaGreatDoor
open Go Go.RowKit

section
variable {B : Nat} {w0 w w' : World} {F X : HP} {α : Type} {ek : α → List Value} {p : Itm α → Bool} {R : List (Itm α)} {g : Nat} {lb : Array Value} {bi bt t q room : Nat} {next : Int} {v : Value}
def DropAF (bi bt t q room : Nat) (g : Nat) (lb : Array Value) (v : Value) (next : Int) (X : HP) (R : List (Itm α)) (p : Itm α → Bool) (k : Nat) : HP :=
  blk bi (.cells #[.func (.func g) #[] lb] 247) • blk bt (.cells #[.pointer (some ⟨t, 0, none⟩)] 68) • blk t (.cells #[v, .pointer (some ⟨q, 0, none⟩), .int .i64 next] 116) • queue q room (ents (part_ R p k)) • X
/-- What is asked of a predicate. -/
def IsPF (B : Nat) (w0 : World) (ek : α → List Value) (p : Itm α → Bool) (R : List (Itm α)) (g : Nat) (lb : Array Value) (t room : Nat) (next : Int) (X : HP) : Prop :=
  ∀ (v : Value) (q k : Nat) (x : Itm α) (W : World) (G : HP), R[k]? = some x → Good R next → Sat B w0 W (blk t (.cells #[v, .pointer (some ⟨q, 0, none⟩), .int .i64 next] 116) • queue q room (ents (part_ R p k)) • X • G) →
    Calls Tryz.prog g (#[.agg (itmC ek x).toArray] ++ lb) W fun e w' => e = .returned (.bool (p x)) ∧ Below W.heap.size W w'
attribute [local irreducible] wpOrd
end
end Go.Proofs.YtdcekoocnoackaaGreatDoor

/-! Facts: keys and rows. -/
namespace Go.Proofs.YtdcekoocnoackaaGreatDoor
open Go Go.RowKit

structure Fk where
  name : ByteArray
  adr : Adr
  deriving DecidableEq
instance : Inhabited Fk := ⟨⟨⟨#[]⟩, ⟨false, List.replicate 16 0, rfl⟩⟩⟩
def Fk.enc (f : Fk) : List Value := .string f.name :: f.adr.enc
abbrev Fk.enc_sz : Nat := 18
theorem Fk.enc_length (f : Fk) : f.enc.length = 18 := by simp [Fk.enc, Adr.enc_length]
theorem Fk.enc_one (f : Fk) : ∀ u ∈ f.enc, u.oneCell' = true := by
  intro u hu
  simp only [Fk.enc, List.mem_cons] at hu
  rcases hu with rfl | h
  · rfl
  · exact f.adr.enc_one u h
/-- A fact: a key and its end. -/
structure Fct where
  key : Fk
  due : Int
  deriving DecidableEq
instance : Inhabited Fct := ⟨⟨default, 0⟩⟩
def Fct.enc (f : Fct) : List Value := f.key.enc ++ [.int .u64 f.due]
abbrev Fct.enc_sz : Nat := 19
theorem Fct.enc_length (f : Fct) : f.enc.length = 19 := by simp [Fct.enc, Fk.enc_length]
theorem Fct.enc_one (f : Fct) : ∀ u ∈ f.enc, u.oneCell' = true := by
  intro u hu
  simp only [Fct.enc, List.mem_append, List.mem_cons, List.not_mem_nil, or_false] at hu
  rcases hu with h | rfl
  · exact f.key.enc_one u h
  · rfl
theorem Fct.at0 (f : Fct) (j : Nat) (hj : j < 18) : f.enc[j]? = f.key.enc[j]? := by
  unfold Fct.enc
  rw [List.getElem?_append_left (by rw [Fk.enc_length]; exact hj)]
end Go.Proofs.YtdcekoocnoackaaGreatDoor

/-! Tables of facts: New, Len, end, Expire, Drop. -/
namespace Go.Proofs.YtdcekoocnoackaaGreatDoor
open Go Go.RowKit

attribute [local irreducible] wpOrd
abbrev ftab (t room : Nat) (R : List (Itm Fk)) (next : Int) : HP := tab Fk.enc 245 116 18 t room R next
def lateF (now : Int) (x : Itm Fk) : Bool := decide (x.due ≤ now)
def isN (name : ByteArray) (x : Itm Fk) : Bool := decide (x.key.name = name)
section
variable {B : Nat} {w0 w w' : World} {F X : HP} {R : List (Itm Fk)} {t room : Nat} {next : Int}
end
end Go.Proofs.YtdcekoocnoackaaGreatDoor

/-! Tables of facts: All. -/
namespace Go.Proofs.YtdcekoocnoackaaGreatDoor
open Go Go.RowKit

attribute [local irreducible] wpOrd
def fcts (R : List (Itm Fk)) : List Fct := R.map fun x => ⟨x.key, x.due⟩
section
variable {B : Nat} {w0 w w' : World} {F X : HP} {R : List (Itm Fk)} {t room : Nat} {next : Int}
end
end Go.Proofs.YtdcekoocnoackaaGreatDoor

/-! awake of layer 17. -/
namespace Go.Proofs.YtdcekoocnoackaaGreatDoor
open Go Go.RowKit

section
variable {B : Nat} {w0 w w' : World} {F : HP} {p q room : Nat} {L S : List Ent}
end
end Go.Proofs.YtdcekoocnoackaaGreatDoor

/-! Two lists of one kind held against each other. -/
namespace Go.Proofs.YtdcekoocnoackaaGreatDoor
open Go Go.RowKit

attribute [local irreducible] wpOrd
end Go.Proofs.YtdcekoocnoackaaGreatDoor

/-! Tables of facts: Names. -/
namespace Go.Proofs.YtdcekoocnoackaaGreatDoor
open Go Go.RowKit

attribute [local irreducible] wpOrd
def namesL (L : List Fct) (a : Adr) : List ByteArray := (L.filter fun f => decide (f.key.adr = a)).map (·.key.name)
section
variable {B : Nat} {w0 w w' : World} {F X : HP} {R : List (Itm Fk)} {t room : Nat} {next : Int}
end
end Go.Proofs.YtdcekoocnoackaaGreatDoor

/-! Learning, in plain words. -/
namespace Go.Proofs.YtdcekoocnoackaaGreatDoor
open Go Go.RowKit

section
variable {R : List (Itm Fk)} {next : Int}
def isK (k : Fk) (x : Itm Fk) : Bool := decide (x.key = k)
def KNF (R : List (Itm Fk)) : Prop := (R.map (·.key)).Nodup
def upK (R : List (Itm Fk)) (k : Fk) (u : Int) : List (Itm Fk) := R.map fun x => if x.key = k then { x with due := max u x.due } else x
def lrnC (room : Nat) (R : List (Itm Fk)) (k : Fk) : Int := if R.any (isK k) then 0 else if room ≤ R.length then 18 else 0
def lrnR (room : Nat) (R : List (Itm Fk)) (next : Int) (k : Fk) (u : Int) : List (Itm Fk) := if R.any (isK k) then upK R k u else if room ≤ R.length then R else R ++ [⟨k, next, u⟩]
def lrnN (room : Nat) (R : List (Itm Fk)) (next : Int) (k : Fk) : Int := if R.any (isK k) then next else if room ≤ R.length then next else next + 1
theorem KNF.nil : KNF [] := by simp [KNF]
theorem KNF.filter (h : KNF R) (p : Itm Fk → Bool) : KNF (R.filter p) := (List.filter_sublist.map _).nodup h
theorem upK_keys {k : Fk} {u : Int} : (upK R k u).map (·.key) = R.map (·.key) := by
  unfold upK
  rw [List.map_map]
  apply List.map_congr_left
  intro x _
  simp only [Function.comp]
  split <;> rfl
theorem any_keyF {k : Fk} : R.any (isK k) = true ↔ k ∈ R.map (·.key) := by
  rw [List.any_eq_true, List.mem_map]
  constructor
  · rintro ⟨x, hx, h⟩; exact ⟨x, hx, by simpa [isK] using h⟩
  · rintro ⟨x, hx, h⟩; exact ⟨x, hx, by simpa [isK] using h⟩
theorem KNF.add (h : KNF R) (room : Nat) (next : Int) (k : Fk) (u : Int) : KNF (lrnR room R next k u) := by
  unfold lrnR
  cases ha : R.any (isK k)
  · simp only [Bool.false_eq_true, if_false]
    split
    · exact h
    · unfold KNF at *
      rw [List.map_append, List.nodup_append]
      refine ⟨h, by simp, ?_⟩
      intro a ha' b hb
      simp only [List.map_cons, List.map_nil, List.mem_singleton] at hb
      subst hb
      rintro rfl
      rw [any_keyF.2 ha'] at ha
      cases ha
  · simp only [if_true]
    unfold KNF at *
    rw [upK_keys]; exact h
end
end Go.Proofs.YtdcekoocnoackaaGreatDoor

/-! Tables of facts: Learn. -/
namespace Go.Proofs.YtdcekoocnoackaaGreatDoor
open Go Go.RowKit

section
variable {B : Nat} {w0 w w' : World} {F X : HP} {R : List (Itm Fk)} {t room : Nat} {next : Int}
attribute [local irreducible] wpOrd
end
end Go.Proofs.YtdcekoocnoackaaGreatDoor
