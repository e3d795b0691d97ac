import Derived.Test.YtepaanpdjadakaaDoorDropP
import Derived.Test.YtepaanpdjadakaaDoorQry
/-! Tables of queries: New, Len, place, Has. -/
namespace Go.Proofs.YtepaanpdjadakaaDoor
open Go Go.RowKit

instance {α : Type} [Inhabited α] : Inhabited (Itm α) := ⟨⟨default, 0, 0⟩⟩
abbrev ptab (t room : Nat) (R : List (Itm Qry)) (next : Int) : HP := tab Qry.enc 169 166 40 t room R next
def isQ (q : Qry) (x : Itm Qry) : Bool := decide (x.key = q)
section
variable {B : Nat} {w0 w w' : World} {F X : HP} {R : List (Itm Qry)} {t room : Nat} {next : Int}
set_option maxRecDepth 8000 in
theorem pNew_any (n : Int) (h : Sat B w0 w F) : Calls Tryd.prog 37 #[.int .i64 n] w fun e w' => ∃ t, e = .returned (.pointer (some ⟨t, 0, none⟩)) ∧ Sat B w0 w' (ptab t (roomOf n) [] 0 • F) := by
  have c1 := qNew_any n h
  clear h
  go_enter Tryd.func37, Tryd.ntmps37
  go_wp2_with fail
  refine c1.mono ?_
  rintro e w1 ⟨q, rfl, hS1⟩
  have hS2 := arr_nil (e := 169) (sz := 40 + 1) (hS1.alloc (.cells #[.slice none 0 0, .pointer (some ⟨q, 0, none⟩), .int .i64 0] 166))
  have HS := Lib.hid (Sat.tab_shut (ek := Qry.enc) (R := []) Good.nil hS2.pull2)
  clear c1 hS1 hS2
  go_wp2_with fail
  go_ret
  exact ⟨_, rfl, HS.out⟩
theorem pLen_any (h : Sat B w0 w (ptab t room R next • F)) : Calls Tryd.prog 43 #[.pointer (some ⟨t, 0, none⟩)] w fun e w' => e = .returned (.int .i64 R.length) ∧ w = w' := by
  obtain ⟨A, c, q, hg, hl1, hl2, hT⟩ := h.tab_open
  have d1 : w.cell? ⟨t, 0, none⟩ = some (.slice A R.length c) := cell_heap hT.heap rfl
  clear hT h
  go_enter Tryd.func43, Tryd.ntmps43
  go_wp2_with fail
  go_ret
  exact ⟨rfl, rfl⟩
theorem pLen_nil (w : World) : Calls Tryd.prog 43 #[.pointer none] w fun e w' => e = .returned (.int .i64 0) ∧ w = w' := by
  go_enter Tryd.func43, Tryd.ntmps43
  go_wp2_with fail
  go_ret
  exact ⟨rfl, rfl⟩
theorem key_load {x : Itm Qry} {b : Nat} {W : World} {ty : TypeId} (h : W.heap[b]? = some (.cells (itmC Qry.enc x).toArray ty)) : (Instr.loadAt 67 (.pointer (some ⟨b, 0, none⟩))).run Tryd.prog W = .ok (.agg x.key.enc.toArray) W :=
  run_loadAt_row (o := 0) h Tryd.underlying67 rfl (by rw [Qry.enc_length]; kernel_rfl) (fun j u hu => by simpa using itmC_key x hu)
set_option maxRecDepth 8000 in
theorem place1_any {b : Nat} (x : Itm Qry) (q : Qry) (h : Sat B w0 w (blk b (.cells q.enc.toArray 67) • F)) : Calls Tryd.prog 139 #[.agg (itmC Qry.enc x).toArray, .pointer (some ⟨b, 0, none⟩)] w fun e w' => e = .returned (.bool (isQ q x)) ∧ Below w.heap.size w w' := by
  unfold isQ
  have hX := h.alloc (.cells (itmC Qry.enc x).toArray 169)
  have hl1 := key_load hX.heap
  have hl2 : (Instr.loadAt 67 (.pointer (some ⟨b, 0, none⟩))).run Tryd.prog (w.alloc (.cells (itmC Qry.enc x).toArray 169)) = .ok (.agg q.enc.toArray) (w.alloc (.cells (itmC Qry.enc x).toArray 169)) :=
    run_loadAt_row hX.pull2.heap Tryd.underlying67 rfl (by rw [Qry.enc_length]; kernel_rfl) (fun j u hu => by simpa using hu)
  have heq := fun w : World => (qry_eq 9996 x.key q : EqV Tryd.prog w 10000 67 _ _ (decide (x.key = q)))
  have hB : Below w.heap.size w (w.alloc (.cells (itmC Qry.enc x).toArray 169)) := (Below.refl _ _).alloc (Nat.le_refl _) _
  clear hX h
  generalize (itmC Qry.enc x).toArray = Y at *
  generalize x.key.enc.toArray = XK at *
  generalize q.enc.toArray = Q at *
  generalize decide (x.key = q) = r at *
  go_enter Tryd.func139, Tryd.ntmps139
  go_wp2_with (first | (refine wpList_load_run (t := 67) rfl rfl rfl hl1 ?_) | (refine wpList_load_run (t := 67) rfl rfl rfl hl2 ?_) | (refine wpList_eql_run rfl rfl rfl rfl (by kernel_rfl) (heq _) ?_))
  go_ret
  exact ⟨rfl, hB⟩
set_option maxRecDepth 8000 in
theorem take1_any {b : Nat} (x : Itm Qry) (q : Qry) (h : Sat B w0 w (blk b (.cells q.enc.toArray 67) • F)) : Calls Tryd.prog 99 #[.agg (itmC Qry.enc x).toArray, .pointer (some ⟨b, 0, none⟩)] w fun e w' => e = .returned (.bool (isQ q x)) ∧ Below w.heap.size w w' := by
  unfold isQ
  have hX := h.alloc (.cells (itmC Qry.enc x).toArray 169)
  have hl1 := key_load hX.heap
  have hl2 : (Instr.loadAt 67 (.pointer (some ⟨b, 0, none⟩))).run Tryd.prog (w.alloc (.cells (itmC Qry.enc x).toArray 169)) = .ok (.agg q.enc.toArray) (w.alloc (.cells (itmC Qry.enc x).toArray 169)) :=
    run_loadAt_row hX.pull2.heap Tryd.underlying67 rfl (by rw [Qry.enc_length]; kernel_rfl) (fun j u hu => by simpa using hu)
  have heq := fun w : World => (qry_eq 9996 x.key q : EqV Tryd.prog w 10000 67 _ _ (decide (x.key = q)))
  have hB : Below w.heap.size w (w.alloc (.cells (itmC Qry.enc x).toArray 169)) := (Below.refl _ _).alloc (Nat.le_refl _) _
  clear hX h
  generalize (itmC Qry.enc x).toArray = Y at *
  generalize x.key.enc.toArray = XK at *
  generalize q.enc.toArray = Q at *
  generalize decide (x.key = q) = r at *
  go_enter Tryd.func99, Tryd.ntmps99
  go_wp2_with (first | (refine wpList_load_run (t := 67) rfl rfl rfl hl1 ?_) | (refine wpList_load_run (t := 67) rfl rfl rfl hl2 ?_) | (refine wpList_eql_run rfl rfl rfl rfl (by kernel_rfl) (heq _) ?_))
  go_ret
  exact ⟨rfl, hB⟩
set_option maxRecDepth 8000 in
set_option maxHeartbeats 2000000 in
theorem pPlace_any (h : Sat B w0 w (ptab t room R next • F)) (q : Qry) : Calls Tryd.prog 97 #[.pointer (some ⟨t, 0, none⟩), .agg q.enc.toArray] w fun e w' => e = .returned (.int .i64 (plc (isQ q) R)) ∧ Sat B w0 w' (ptab t room R next • F) := by
  have egd : ∀ args w, (callFunc 139 args).run Tryd.prog w = .ok (.enter 139 args) w := enters_of Tryd.func139 (by kernel_rfl) rfl
  obtain ⟨A, c, qq, hg, hl1, hl2, hT⟩ := h.tab_open
  have hX := hT.alloc (.cells q.enc.toArray 67)
  have d1 : (w.alloc (.cells q.enc.toArray 67)).cell? ⟨t, 0, none⟩ = some (.slice A R.length c) := cell_heap hX.pull2.heap rfl
  have c1 := indexP_any (B := B) (w0 := w0) (enc := itmC Qry.enc) (p := isQ q) (l := R) (g := 139) (lb := #[.pointer (some ⟨w.heap.size, 0, none⟩)]) (v := .slice A R.length c) (itmC_length Qry.enc_length) egd
    (fun _ => arr 169 41 (.slice A R.length c) R.length (R.flatMap (itmC Qry.enc)) • blk w.heap.size (.cells q.enc.toArray 67) • blk t (.cells #[.slice A R.length c, .pointer (some ⟨qq, 0, none⟩), .int .i64 next] 166) • queue qq room (ents R) • F) (by omega)
    (fun k W _ hS => hS.arr_reads)
    (fun k x W hx hS => (place1_any x q hS.pull2).mono fun e w' ⟨he, hb⟩ => ⟨he, hS.below_ hb⟩)
    (hX.to (by ac_rfl))
  have HG := Lib.hid hg
  generalize q.enc.toArray = Q at *
  clear egd hX hT h hg
  go_enter Tryd.func97, Tryd.ntmps97
  go_wp2_with fail
  refine c1.mono ?_
  rintro e w1 ⟨rfl, hS1⟩
  go_wp2_with fail
  go_ret
  refine ⟨rfl, Sat.tab_shut (v := .slice A R.length c) (q := qq) HG.out ?_⟩
  exact (hS1.to (by ac_rfl : _ = blk w.heap.size (.cells Q 67) • blk t (.cells #[.slice A R.length c, .pointer (some ⟨qq, 0, none⟩), .int .i64 next] 166) • arr 169 (40 + 1) (.slice A R.length c) R.length (R.flatMap (itmC Qry.enc)) • queue qq room (ents R) • F)).drop
theorem pPlace_nil (q : Qry) (w : World) : Calls Tryd.prog 97 #[.pointer none, .agg q.enc.toArray] w fun e w' => e = .returned (.int .i64 (-1)) ∧ Below w.heap.size w w' := by
  have hB := ((Sat.start w).alloc (.cells q.enc.toArray 67)).below
  generalize q.enc.toArray = Q at *
  go_enter Tryd.func97, Tryd.ntmps97
  go_wp2_with fail
  go_ret
  exact ⟨rfl, hB⟩
theorem plc_any {β : Type} (p : β → Bool) (l : List β) : (0 ≤ plc p l) ↔ l.any p = true := by
  rcases plc_cases p l with ⟨h1, h2⟩ | ⟨k, x, h1, h2, h3, _⟩
  · rw [h1]
    constructor
    · intro h; omega
    · intro h
      rw [List.any_eq_true] at h
      obtain ⟨x, hx, hp⟩ := h
      rw [h2 x hx] at hp; cases hp
  · rw [h3]
    constructor
    · intro _; rw [List.any_eq_true]; exact ⟨x, List.mem_of_getElem? h1, h2⟩
    · intro _; omega
set_option maxRecDepth 8000 in
theorem pHas_any (h : Sat B w0 w (ptab t room R next • F)) (q : Qry) : Calls Tryd.prog 41 #[.pointer (some ⟨t, 0, none⟩), .agg q.enc.toArray] w fun e w' => e = .returned (.bool (R.any (isQ q))) ∧ Sat B w0 w' (ptab t room R next • F) := by
  have hX := h.alloc_ (.cells q.enc.toArray 67)
  have hl : (Instr.loadAt 67 (.pointer (some ⟨w.heap.size, 0, none⟩))).run Tryd.prog (w.alloc (.cells q.enc.toArray 67)) = .ok (.agg q.enc.toArray) (w.alloc (.cells q.enc.toArray 67)) :=
    run_loadAt_row (heap_alloc_new _ _) Tryd.underlying67 rfl (by rw [Qry.enc_length]; kernel_rfl) (fun j u hu => by simpa using hu)
  have c1 := pPlace_any hX q
  have hpa := plc_any (isQ q) R
  generalize q.enc.toArray = Q at *
  generalize plc (isQ q) R = m at *
  cases ha : R.any (isQ q)
  · rw [ha] at hpa
    have hm : m < 0 := by
      by_cases h : 0 ≤ m
      · exact absurd (hpa.1 h) (by simp)
      · omega
    have hmb : decide (0 ≤ m) = false := decide_eq_false (by omega)
    clear hpa ha hm
    go_enter Tryd.func41, Tryd.ntmps41
    go_wp2_with (refine wpList_load_run (t := 67) rfl rfl rfl hl ?_)
    refine c1.mono ?_
    rintro e w1 ⟨rfl, hS1⟩
    go_wp2_with fail
    go_ret
    exact ⟨rfl, hS1⟩
  · rw [ha] at hpa
    have hm : 0 ≤ m := hpa.2 rfl
    clear hpa ha
    go_enter Tryd.func41, Tryd.ntmps41
    go_wp2_with (refine wpList_load_run (t := 67) rfl rfl rfl hl ?_)
    refine c1.mono ?_
    rintro e w1 ⟨rfl, hS1⟩
    go_wp2_with fail
    go_ret
    exact ⟨rfl, hS1⟩
set_option maxRecDepth 8000 in
theorem pHas_nil (q : Qry) (w : World) : Calls Tryd.prog 41 #[.pointer none, .agg q.enc.toArray] w fun e w' => e = .returned (.bool false) ∧ Below w.heap.size w w' := by
  have hX := (Sat.start w).alloc_ (.cells q.enc.toArray 67)
  have hl : (Instr.loadAt 67 (.pointer (some ⟨w.heap.size, 0, none⟩))).run Tryd.prog (w.alloc (.cells q.enc.toArray 67)) = .ok (.agg q.enc.toArray) (w.alloc (.cells q.enc.toArray 67)) :=
    run_loadAt_row (heap_alloc_new _ _) Tryd.underlying67 rfl (by rw [Qry.enc_length]; kernel_rfl) (fun j u hu => by simpa using hu)
  have c1 := pPlace_nil q (w.alloc (.cells q.enc.toArray 67))
  generalize q.enc.toArray = Q at *
  go_enter Tryd.func41, Tryd.ntmps41
  go_wp2_with (refine wpList_load_run (t := 67) rfl rfl rfl hl ?_)
  refine c1.mono ?_
  rintro e w1 ⟨rfl, hb⟩
  have hS2 := hX.below_ hb
  go_wp2_with fail
  go_ret
  exact ⟨rfl, hS2.below⟩
end
end Go.Proofs.YtepaanpdjadakaaDoor
