import Derived.Test.YtepaanpdjadakaaDoorDropP
import Derived.Test.YtepaanpdjadakaaDoorQry
import Derived.Test.YtepaanpdjadakaaDoorPend1
/-! Tables of queries: Take, Expire, Keep. -/
namespace Go.Proofs.YtepaanpdjadakaaDoor
open Go Go.RowKit

def late (now : Int) (x : Itm Qry) : Bool := decide (x.due ≤ now)
def away (ss : List Adr) (x : Itm Qry) : Bool := !ss.any fun a => decide (x.key.server = a)
section
variable {B : Nat} {w0 w w' : World} {F X : HP} {R : List (Itm Qry)} {t room : Nat} {next : Int}
theorem filter_lt {β : Type} (p : β → Bool) (l : List β) : ((0 : Int) < (l.length : Int) - (l.filter fun x => !p x).length) ↔ l.any p = true := by
  have h1 := List.length_filter_lt_length_iff_exists (l := l) (p := fun x => !p x)
  have h2 := List.length_filter_le (fun x => !p x) l
  rw [List.any_eq_true]
  constructor
  · intro h
    obtain ⟨x, hx, hp⟩ := h1.1 (by omega)
    exact ⟨x, hx, by simpa using hp⟩
  · rintro ⟨x, hx, hp⟩
    have := h1.2 ⟨x, hx, by simp [hp]⟩
    omega
attribute [local irreducible] wpOrd
set_option maxRecDepth 8000 in
theorem pTake_any (h : Sat B w0 w (ptab t room R next • F)) (q : Qry) : Calls Tryd.prog 40 #[.pointer (some ⟨t, 0, none⟩), .agg q.enc.toArray] w fun e w' => e = .returned (.bool (R.any (isQ q))) ∧ Sat B w0 w' (ptab t room (R.filter fun x => !isQ q x) next • F) := by
  have egd : ∀ args w, (callFunc 99 args).run Tryd.prog w = .ok (.enter 99 args) w := enters_of Tryd.func99 (by kernel_rfl) rfl
  have hX := h.alloc (.cells q.enc.toArray 67)
  have c1 := dropP_any (X := blk w.heap.size (.cells q.enc.toArray 67)) (p := isQ q) (g := 99) (lb := #[.pointer (some ⟨w.heap.size, 0, none⟩)]) Qry.enc_length Qry.enc_one egd
    (fun v qq k x W G hx hg hS => take1_any x q hS.pull3) hX.pull2
  have hfl := filter_lt (isQ q) R
  have hfl2 := List.length_filter_le (fun x => !isQ q x) R
  obtain ⟨_, _, _, _, hl1, hl2, _⟩ := h.tab_open
  have HFL := Lib.hid (rfl : (R.filter fun x => !isQ q x) = (R.filter fun x => !isQ q x))
  generalize (R.filter fun x => !isQ q x).length = fl at *
  generalize q.enc.toArray = Q at *
  clear egd hX h HFL
  cases ha : R.any (isQ q)
  · rw [ha] at hfl
    have hm : (R.length : Int) - fl ≤ 0 := by
      by_cases h : (0 : Int) < (R.length : Int) - fl
      · exact absurd (hfl.1 h) (by simp)
      · omega
    clear hfl ha
    generalize (R.length : Int) - fl = m at *
    have hmb : decide (0 < m) = false := decide_eq_false (by omega)
    clear hm
    go_enter Tryd.func40, Tryd.ntmps40
    go_wp2_with fail
    refine c1.mono ?_
    rintro e w1 ⟨rfl, hS1⟩
    go_wp2_with fail
    go_ret
    exact ⟨rfl, hS1.pull2.drop⟩
  · rw [ha] at hfl
    have hm : 0 < (R.length : Int) - fl := hfl.2 rfl
    clear hfl ha
    generalize (R.length : Int) - fl = m at *
    go_enter Tryd.func40, Tryd.ntmps40
    go_wp2_with fail
    refine c1.mono ?_
    rintro e w1 ⟨rfl, hS1⟩
    go_wp2_with fail
    go_ret
    exact ⟨rfl, hS1.pull2.drop⟩
theorem pTake_nil (q : Qry) (w : World) : Calls Tryd.prog 40 #[.pointer none, .agg q.enc.toArray] w fun e w' => e = .returned (.bool false) ∧ Below w.heap.size w w' := by
  have hX := (Sat.start w).alloc_ (.cells q.enc.toArray 67)
  generalize q.enc.toArray = Q at *
  go_enter Tryd.func40, Tryd.ntmps40
  go_wp2_with fail
  refine (dropNilP _ _ _).mono ?_
  rintro e w1 ⟨rfl, hb⟩
  have hS2 := hX.below_ hb
  go_wp2_with fail
  go_ret
  exact ⟨rfl, hS2.below⟩
set_option maxRecDepth 8000 in
set_option maxHeartbeats 2000000 in
theorem late1_any {bt bn q k : Nat} {now : Int} {v : Value} {G : HP} {x : Itm Qry} (hx : R[k]? = some x) (hg : Good R next) {p : Itm Qry → Bool}
    (h : Sat B w0 w (blk t (.cells #[v, .pointer (some ⟨q, 0, none⟩), .int .i64 next] 166) • queue q room (ents (part_ R p k)) • (blk bt (.cells #[.pointer (some ⟨t, 0, none⟩)] 68) • blk bn (.cells #[.int .u64 now] 23)) • G)) :
    Calls Tryd.prog 100 #[.agg (itmC Qry.enc x).toArray, .pointer (some ⟨bt, 0, none⟩), .pointer (some ⟨bn, 0, none⟩)] w fun e w' => e = .returned (.bool (late now x)) ∧ Below w.heap.size w w' := by
  unfold late
  have hda := (hg.sub (part_sub (p := p) k)).due (part_mem hx)
  have hX := h.alloc (.cells (itmC Qry.enc x).toArray 169)
  rw [star_assoc] at hX
  have hid : (itmC Qry.enc x).toArray[40]? = some (.int .i64 x.id) := by simpa using itmC_id Qry.enc_length x
  have hS1 := (hX.to (by ac_rfl : _ = blk w.heap.size (.cells (itmC Qry.enc x).toArray 169) • blk bt (.cells #[.pointer (some ⟨t, 0, none⟩)] 68) • blk t (.cells #[v, .pointer (some ⟨q, 0, none⟩), .int .i64 next] 166) • queue q room (ents (part_ R p k)) • blk bn (.cells #[.int .u64 now] 23) • G)).drew
  have hbn : (w.alloc (.cells (itmC Qry.enc x).toArray 169)).drew.cell? ⟨bn, 0, none⟩ = some (.int .u64 now) := cell_heap (hS1.to (by ac_rfl : _ = blk bn (.cells #[.int .u64 now] 23) • blk w.heap.size (.cells (itmC Qry.enc x).toArray 169) • blk bt (.cells #[.pointer (some ⟨t, 0, none⟩)] 68) • blk t (.cells #[v, .pointer (some ⟨q, 0, none⟩), .int .i64 next] 166) • queue q room (ents (part_ R p k)) • G)).heap rfl
  have hB : Below w.heap.size w (w.alloc (.cells (itmC Qry.enc x).toArray 169)).drew := (((Sat.start w).alloc_ _).drew).below
  have HID := Lib.hid hid
  have c1 := qAt_any hS1.pull4 x.id
  rw [hda] at c1
  generalize (itmC Qry.enc x).toArray = Y at *
  generalize x.due = xd at *
  generalize x.id = xi at *
  clear hX h hda hid hx hg
  by_cases hl : xd ≤ now
  · have hl' : decide (xd ≤ now) = true := decide_eq_true hl
    rw [hl']
    clear hl
    go_enter Tryd.func100, Tryd.ntmps100
    go_wp2_with fail
    try go_frame
    refine wp_region_ord [(0, .quiet), (1, .pure), (2, .pure), (3, .quiet), (4, .pure), (5, .quiet), (6, .seals), (7, .pure), (8, .pure), (9, .pure), (10, .pure), (11, .pure)] (by kernel_rfl) (by kernel_rfl)
      (fun w' => w'.cell? ⟨bt, 0, none⟩ = some (.pointer (some ⟨t, 0, none⟩)) ∧ w'.cell? ⟨t, 1, none⟩ = some (.pointer (some ⟨q, 0, none⟩)) ∧ w'.cell? ⟨w.heap.size, 40, none⟩ = some (.int .i64 xi)) ⟨cell_heap hS1.pull2.heap rfl, cell_heap hS1.pull3.heap rfl, cell_heap hS1.heap HID.out⟩ ?_
    refine ord_load (t := 68) rfl rfl rfl (p := .pointer (some ⟨bt, 0, none⟩)) (v := .pointer (some ⟨t, 0, none⟩)) rfl (fun w' hC => load_one Tryd.underlying68 rfl hC.1) (fun K' hK => ?_)
    go_simp
    refine hK _ ?_
    clear hK K'
    iterate 2 (refine ord_pure rfl rfl rfl (fun K' hK => ?_); go_big_quiet_op; refine hK _ ?_; clear hK K')
    refine ord_load (t := 25) rfl rfl rfl (p := .pointer (some ⟨t, 1, none⟩)) (v := .pointer (some ⟨q, 0, none⟩)) rfl (fun w' hC => load_one Tryd.underlying25 rfl hC.2.1) (fun K' hK => ?_)
    go_simp
    refine hK _ ?_
    clear hK K'
    iterate 1 (refine ord_pure rfl rfl rfl (fun K' hK => ?_); go_big_quiet_op; refine hK _ ?_; clear hK K')
    refine ord_load (t := 3) rfl rfl rfl (p := .pointer (some ⟨w.heap.size, 40, none⟩)) (v := .int .i64 xi) rfl (fun w' hC => load_one Tryd.underlying3 rfl hC.2.2) (fun K' hK => ?_)
    go_simp
    refine hK _ ?_
    clear hK K'
    refine ord_seals rfl rfl (fun K' hK => ?_)
    go_simp
    refine (c1).mono ?_
    rintro e w3 ⟨rfl, rfl⟩
    refine hK (fun _ => True) _ _ trivial ?_
    clear hK K'
    go_simp
    iterate 5 (refine ord_pure rfl rfl rfl (fun K' hK => ?_); go_big_quiet_op; refine hK _ ?_; clear hK K')
    refine ord_nil ?_
    go_wp2_with fail
    go_ret
    exact ⟨rfl, hB⟩
  · have hl' : decide (xd ≤ now) = false := decide_eq_false hl
    rw [hl']
    clear hl
    go_enter Tryd.func100, Tryd.ntmps100
    go_wp2_with fail
    try go_frame
    refine wp_region_ord [(0, .quiet), (1, .pure), (2, .pure), (3, .quiet), (4, .pure), (5, .quiet), (6, .seals), (7, .pure), (8, .pure), (9, .pure), (10, .pure), (11, .pure)] (by kernel_rfl) (by kernel_rfl)
      (fun w' => w'.cell? ⟨bt, 0, none⟩ = some (.pointer (some ⟨t, 0, none⟩)) ∧ w'.cell? ⟨t, 1, none⟩ = some (.pointer (some ⟨q, 0, none⟩)) ∧ w'.cell? ⟨w.heap.size, 40, none⟩ = some (.int .i64 xi)) ⟨cell_heap hS1.pull2.heap rfl, cell_heap hS1.pull3.heap rfl, cell_heap hS1.heap HID.out⟩ ?_
    refine ord_load (t := 68) rfl rfl rfl (p := .pointer (some ⟨bt, 0, none⟩)) (v := .pointer (some ⟨t, 0, none⟩)) rfl (fun w' hC => load_one Tryd.underlying68 rfl hC.1) (fun K' hK => ?_)
    go_simp
    refine hK _ ?_
    clear hK K'
    iterate 2 (refine ord_pure rfl rfl rfl (fun K' hK => ?_); go_big_quiet_op; refine hK _ ?_; clear hK K')
    refine ord_load (t := 25) rfl rfl rfl (p := .pointer (some ⟨t, 1, none⟩)) (v := .pointer (some ⟨q, 0, none⟩)) rfl (fun w' hC => load_one Tryd.underlying25 rfl hC.2.1) (fun K' hK => ?_)
    go_simp
    refine hK _ ?_
    clear hK K'
    iterate 1 (refine ord_pure rfl rfl rfl (fun K' hK => ?_); go_big_quiet_op; refine hK _ ?_; clear hK K')
    refine ord_load (t := 3) rfl rfl rfl (p := .pointer (some ⟨w.heap.size, 40, none⟩)) (v := .int .i64 xi) rfl (fun w' hC => load_one Tryd.underlying3 rfl hC.2.2) (fun K' hK => ?_)
    go_simp
    refine hK _ ?_
    clear hK K'
    refine ord_seals rfl rfl (fun K' hK => ?_)
    go_simp
    refine (c1).mono ?_
    rintro e w3 ⟨rfl, rfl⟩
    refine hK (fun _ => True) _ _ trivial ?_
    clear hK K'
    go_simp
    iterate 5 (refine ord_pure rfl rfl rfl (fun K' hK => ?_); go_big_quiet_op; refine hK _ ?_; clear hK K')
    refine ord_nil ?_
    go_wp2_with fail
    go_ret
    exact ⟨rfl, hB⟩
set_option maxRecDepth 8000 in
theorem pExpire_any (h : Sat B w0 w (ptab t room R next • F)) (now : Int) : Calls Tryd.prog 42 #[.pointer (some ⟨t, 0, none⟩), .int .u64 now] w fun e w' => e = .returned (.int .i64 ((R.length : Int) - (R.filter fun x => !late now x).length)) ∧ Sat B w0 w' (ptab t room (R.filter fun x => !late now x) next • F) := by
  have egd : ∀ args w, (callFunc 100 args).run Tryd.prog w = .ok (.enter 100 args) w := enters_of Tryd.func100 (by kernel_rfl) rfl
  have hX := (h.alloc (.cells #[.pointer (some ⟨t, 0, none⟩)] 68)).alloc (.cells #[.int .u64 now] 23)
  rw [World.size_alloc] at hX
  have d1 : ((w.alloc (.cells #[.pointer (some ⟨t, 0, none⟩)] 68)).alloc (.cells #[.int .u64 now] 23)).cell? ⟨w.heap.size, 0, none⟩ = some (.pointer (some ⟨t, 0, none⟩)) := cell_heap hX.pull2.heap rfl
  have c1 := dropP_any (X := blk w.heap.size (.cells #[.pointer (some ⟨t, 0, none⟩)] 68) • blk (w.heap.size + 1) (.cells #[.int .u64 now] 23)) (p := late now) (g := 100) (lb := #[.pointer (some ⟨w.heap.size, 0, none⟩), .pointer (some ⟨w.heap.size + 1, 0, none⟩)]) Qry.enc_length Qry.enc_one egd
    (fun v qq k x W G hx hg hS => late1_any hx hg hS) (hX.to (by ac_rfl : _ = ptab t room R next • (blk w.heap.size (.cells #[.pointer (some ⟨t, 0, none⟩)] 68) • blk (w.heap.size + 1) (.cells #[.int .u64 now] 23)) • F))
  generalize (R.length : Int) - (R.filter fun x => !late now x).length = m at *
  clear egd hX h
  go_enter Tryd.func42, Tryd.ntmps42
  go_wp2_with fail
  refine c1.mono ?_
  rintro e w1 ⟨rfl, hS1⟩
  go_wp2_with fail
  go_ret
  exact ⟨rfl, hS1.pull2.drop⟩
theorem pExpire_nil (now : Int) (w : World) : Calls Tryd.prog 42 #[.pointer none, .int .u64 now] w fun e w' => e = .returned (.int .i64 0) ∧ Below w.heap.size w w' := by
  have hX := ((Sat.start w).alloc (.cells #[.pointer none] 68)).alloc_ (.cells #[.int .u64 now] 23)
  go_enter Tryd.func42, Tryd.ntmps42
  go_wp2_with fail
  refine (dropNilP _ _ _).mono ?_
  rintro e w1 ⟨rfl, hb⟩
  have hS2 := hX.below_ hb
  go_wp2_with fail
  go_ret
  exact ⟨rfl, hS2.below⟩
end
end Go.Proofs.YtepaanpdjadakaaDoor
