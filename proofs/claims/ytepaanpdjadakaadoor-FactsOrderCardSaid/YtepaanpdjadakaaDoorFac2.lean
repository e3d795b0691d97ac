import Derived.Test.YtepaanpdjadakaaDoorDropF
import Derived.Test.YtepaanpdjadakaaDoorFct
import Derived.Test.YtepaanpdjadakaaDoorFac1
/-! Tables of facts: Expire, Drop. -/
namespace Go.Proofs.YtepaanpdjadakaaDoor
open Go Go.RowKit

attribute [local irreducible] wpOrd
section
variable {B : Nat} {w0 w w' : World} {F X : HP} {R : List (Itm Fk)} {t room : Nat} {next : Int}
set_option maxRecDepth 8000 in
set_option maxHeartbeats 2000000 in
theorem lateF1_any {bt bn q k : Nat} {now : Int} {v : Value} {G : HP} {x : Itm Fk} (hx : R[k]? = some x) (hg : Good R next) {p : Itm Fk → Bool}
    (h : Sat B w0 w (blk t (.cells #[v, .pointer (some ⟨q, 0, none⟩), .int .i64 next] 178) • queue q room (ents (part_ R p k)) • (blk bt (.cells #[.pointer (some ⟨t, 0, none⟩)] 94) • blk bn (.cells #[.int .u64 now] 23)) • G)) :
    Calls Tryd.prog 112 #[.agg (itmC Fk.enc x).toArray, .pointer (some ⟨bt, 0, none⟩), .pointer (some ⟨bn, 0, none⟩)] w fun e w' => e = .returned (.bool (lateF now x)) ∧ Below w.heap.size w w' := by
  unfold lateF
  have hda := (hg.sub (part_sub (p := p) k)).due (part_mem hx)
  have hX := h.alloc (.cells (itmC Fk.enc x).toArray 180)
  rw [star_assoc] at hX
  have hS1 := (hX.to (by ac_rfl : _ = blk w.heap.size (.cells (itmC Fk.enc x).toArray 180) • blk bt (.cells #[.pointer (some ⟨t, 0, none⟩)] 94) • blk bn (.cells #[.int .u64 now] 23) • blk t (.cells #[v, .pointer (some ⟨q, 0, none⟩), .int .i64 next] 178) • queue q room (ents (part_ R p k)) • G)).drew
  have hB : Below w.heap.size w (w.alloc (.cells (itmC Fk.enc x).toArray 180)).drew := (((Sat.start w).alloc_ _).drew).below
  have c1 := fEnd_any hda (hS1.to (by ac_rfl : _ = blk t (.cells #[v, .pointer (some ⟨q, 0, none⟩), .int .i64 next] 178) • queue q room (ents (part_ R p k)) • blk w.heap.size (.cells (itmC Fk.enc x).toArray 180) • blk bt (.cells #[.pointer (some ⟨t, 0, none⟩)] 94) • blk bn (.cells #[.int .u64 now] 23) • G))
  have hlx : ∀ W, W.heap[w.heap.size]? = some (.cells (itmC Fk.enc x).toArray 180) → (Instr.loadAt 180 (.pointer (some ⟨w.heap.size, 0, none⟩))).run Tryd.prog W = .ok (.agg (itmC Fk.enc x).toArray) W :=
    fun W h => run_loadAt_row h Tryd.underlying180 rfl (by rw [itmC_length Fk.enc_length]; kernel_rfl) (fun j u hu => by simpa using hu)
  have HLX := Lib.hid hlx
  generalize (itmC Fk.enc x).toArray = Y at *
  generalize x.due = xd at *
  clear hX h hda hx hg hlx
  cases hl : decide (xd ≤ now)
  all_goals
    go_enter Tryd.func112, Tryd.ntmps112
    go_wp2_with fail
    try go_frame
    refine wp_region_ord [(0, .quiet), (1, .quiet), (3, .quiet), (2, .acts), (4, .pure), (5, .pure)] (by kernel_rfl) (by kernel_rfl)
      (fun w' => w'.cell? ⟨bt, 0, none⟩ = some (.pointer (some ⟨t, 0, none⟩)) ∧ w'.cell? ⟨bn, 0, none⟩ = some (.int .u64 now) ∧ w'.heap[w.heap.size]? = some (.cells Y 180)) ⟨cell_heap hS1.pull2.heap rfl, cell_heap hS1.pull3.heap rfl, hS1.heap⟩ ?_
    refine ord_load (t := 94) rfl rfl rfl (p := .pointer (some ⟨bt, 0, none⟩)) (v := .pointer (some ⟨t, 0, none⟩)) rfl (fun w' hC => load_one Tryd.underlying94 rfl hC.1) (fun K' hK => ?_)
    go_simp
    refine hK _ ?_
    clear hK K'
    refine ord_load (t := 180) rfl rfl rfl (p := .pointer (some ⟨w.heap.size, 0, none⟩)) (v := .agg Y) rfl (fun w' hC => HLX.out _ hC.2.2) (fun K' hK => ?_)
    go_simp
    refine hK _ ?_
    clear hK K'
    refine ord_load (t := 23) rfl rfl rfl (p := .pointer (some ⟨bn, 0, none⟩)) (v := .int .u64 now) rfl (fun w' hC => load_one Tryd.underlying23 rfl hC.2.1) (fun K' hK => ?_)
    go_simp
    refine hK _ ?_
    clear hK K'
    refine ord_acts rfl rfl (fun K' hK => ?_)
    go_simp
    refine (c1).mono ?_
    rintro e w3 ⟨rfl, hb⟩
    have hS3 := hS1.below_ hb
    have hC3 : w3.cell? ⟨bt, 0, none⟩ = some (.pointer (some ⟨t, 0, none⟩)) ∧ w3.cell? ⟨bn, 0, none⟩ = some (.int .u64 now) ∧ w3.heap[w.heap.size]? = some (.cells Y 180) := ⟨cell_heap hS3.pull2.heap rfl, cell_heap hS3.pull3.heap rfl, hS3.heap⟩
    refine hK _ _ (hC3) ?_
    clear hK K'
    go_simp
    iterate 2 (refine ord_pure rfl rfl rfl (fun K' hK => ?_); go_big_quiet_op; refine hK _ ?_; clear hK K')
    refine ord_nil ?_
    go_wp2_with fail
    go_ret
    exact ⟨rfl, hB.trans (hb.mono hB.size)⟩
set_option maxRecDepth 8000 in
theorem fExpire_any (h : Sat B w0 w (ftab t room R next • F)) (now : Int) : Calls Tryd.prog 62 #[.pointer (some ⟨t, 0, none⟩), .int .u64 now] w fun e w' => e = .returned (.int .i64 ((R.length : Int) - (R.filter fun x => !lateF now x).length)) ∧ Sat B w0 w' (ftab t room (R.filter fun x => !lateF now x) next • F) := by
  have egd : ∀ args w, (callFunc 112 args).run Tryd.prog w = .ok (.enter 112 args) w := enters_of Tryd.func112 (by kernel_rfl) rfl
  have hX := (h.alloc (.cells #[.pointer (some ⟨t, 0, none⟩)] 94)).alloc (.cells #[.int .u64 now] 23)
  rw [World.size_alloc] at hX
  have d1 : ((w.alloc (.cells #[.pointer (some ⟨t, 0, none⟩)] 94)).alloc (.cells #[.int .u64 now] 23)).cell? ⟨w.heap.size, 0, none⟩ = some (.pointer (some ⟨t, 0, none⟩)) := cell_heap hX.pull2.heap rfl
  have c1 := dropF_any (X := blk w.heap.size (.cells #[.pointer (some ⟨t, 0, none⟩)] 94) • blk (w.heap.size + 1) (.cells #[.int .u64 now] 23)) (p := lateF now) (g := 112) (lb := #[.pointer (some ⟨w.heap.size, 0, none⟩), .pointer (some ⟨w.heap.size + 1, 0, none⟩)]) Fk.enc_length Fk.enc_one egd
    (fun v qq k x W G hx hg hS => lateF1_any hx hg hS) (hX.to (by ac_rfl : _ = ftab t room R next • (blk w.heap.size (.cells #[.pointer (some ⟨t, 0, none⟩)] 94) • blk (w.heap.size + 1) (.cells #[.int .u64 now] 23)) • F))
  generalize (R.length : Int) - (R.filter fun x => !lateF now x).length = m at *
  clear egd hX h
  go_enter Tryd.func62, Tryd.ntmps62
  go_wp2_with fail
  refine c1.mono ?_
  rintro e w1 ⟨rfl, hS1⟩
  go_wp2_with fail
  go_ret
  exact ⟨rfl, hS1.pull2.drop⟩
set_option maxRecDepth 8000 in
set_option maxHeartbeats 1000000 in
theorem nameF1_any {bn : Nat} {name : ByteArray} (x : Itm Fk) (h : Sat B w0 w (blk bn (.cells #[.string name] 9) • F)) :
    Calls Tryd.prog 113 #[.agg (itmC Fk.enc x).toArray, .pointer (some ⟨bn, 0, none⟩)] w fun e w' => e = .returned (.bool (isN name x)) ∧ Below w.heap.size w w' := by
  unfold isN
  have hX := h.alloc (.cells (itmC Fk.enc x).toArray 180)
  have d1 : (w.alloc (.cells (itmC Fk.enc x).toArray 180)).cell? ⟨w.heap.size, 0, none⟩ = some (.string x.key.name) := cell_heap hX.heap (by simp [itmC, Fk.enc])
  have d2 : (w.alloc (.cells (itmC Fk.enc x).toArray 180)).cell? ⟨bn, 0, none⟩ = some (.string name) := cell_heap hX.pull2.heap rfl
  have hB : Below w.heap.size w (w.alloc (.cells (itmC Fk.enc x).toArray 180)) := ((Sat.start w).alloc_ _).below
  have hb1 := strl x.key.name name
  unfold eqD at hb1
  generalize (itmC Fk.enc x).toArray = Y at *
  generalize x.key.name = xn at *
  clear hX h
  go_enter Tryd.func113, Tryd.ntmps113
  go_wp2_with fail
  go_ret
  exact ⟨rfl, hB⟩
set_option maxRecDepth 8000 in
theorem fDrop_any (h : Sat B w0 w (ftab t room R next • F)) (name : ByteArray) : Calls Tryd.prog 65 #[.pointer (some ⟨t, 0, none⟩), .string name] w fun e w' => e = .returned (.int .i64 ((R.length : Int) - (R.filter fun x => !isN name x).length)) ∧ Sat B w0 w' (ftab t room (R.filter fun x => !isN name x) next • F) := by
  have egd : ∀ args w, (callFunc 113 args).run Tryd.prog w = .ok (.enter 113 args) w := enters_of Tryd.func113 (by kernel_rfl) rfl
  have hX := h.alloc (.cells #[.string name] 9)
  have c1 := dropF_any (X := blk w.heap.size (.cells #[.string name] 9)) (p := isN name) (g := 113) (lb := #[.pointer (some ⟨w.heap.size, 0, none⟩)]) Fk.enc_length Fk.enc_one egd
    (fun v qq k x W G hx hg hS => nameF1_any x hS.pull3) hX.pull2
  generalize (R.length : Int) - (R.filter fun x => !isN name x).length = m at *
  clear egd hX h
  go_enter Tryd.func65, Tryd.ntmps65
  go_wp2_with fail
  refine c1.mono ?_
  rintro e w1 ⟨rfl, hS1⟩
  go_wp2_with fail
  go_ret
  exact ⟨rfl, hS1.pull2.drop⟩
end
end Go.Proofs.YtepaanpdjadakaaDoor
