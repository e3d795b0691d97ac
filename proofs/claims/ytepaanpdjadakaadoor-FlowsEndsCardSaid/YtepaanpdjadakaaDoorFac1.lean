import Derived.Test.YtepaanpdjadakaaDoorDropF
import Derived.Test.YtepaanpdjadakaaDoorFct
/-! Tables of facts: New, Len, end, Expire, Drop. -/
namespace Go.Proofs.YtepaanpdjadakaaDoor
open Go Go.RowKit

attribute [local irreducible] wpOrd
abbrev ftab (t room : Nat) (R : List (Itm Fk)) (next : Int) : HP := tab Fk.enc 180 178 18 t room R next
def lateF (now : Int) (x : Itm Fk) : Bool := decide (x.due ≤ now)
def isN (name : ByteArray) (x : Itm Fk) : Bool := decide (x.key.name = name)
section
variable {B : Nat} {w0 w w' : World} {F X : HP} {R : List (Itm Fk)} {t room : Nat} {next : Int}
set_option maxRecDepth 8000 in
theorem fNew_any (n : Int) (h : Sat B w0 w F) : Calls Tryd.prog 56 #[.int .i64 n] w fun e w' => ∃ t, e = .returned (.pointer (some ⟨t, 0, none⟩)) ∧ Sat B w0 w' (ftab t (roomOf n) [] 0 • F) := by
  have c1 := qNew_any n h
  clear h
  go_enter Tryd.func56, Tryd.ntmps56
  go_wp2_with fail
  refine c1.mono ?_
  rintro e w1 ⟨q, rfl, hS1⟩
  have hS2 := arr_nil (e := 180) (sz := 18 + 1) (hS1.alloc (.cells #[.slice none 0 0, .pointer (some ⟨q, 0, none⟩), .int .i64 0] 178))
  have HS := Lib.hid (Sat.tab_shut (ek := Fk.enc) (R := []) Good.nil hS2.pull2)
  clear c1 hS1 hS2
  go_wp2_with fail
  go_ret
  exact ⟨_, rfl, HS.out⟩
theorem fLen_any (h : Sat B w0 w (ftab t room R next • F)) : Calls Tryd.prog 59 #[.pointer (some ⟨t, 0, none⟩)] w fun e w' => e = .returned (.int .i64 R.length) ∧ w = w' := by
  obtain ⟨A, c, q, hg, hl1, hl2, hT⟩ := h.tab_open
  have d1 : w.cell? ⟨t, 0, none⟩ = some (.slice A R.length c) := cell_heap hT.heap rfl
  clear hT h
  go_enter Tryd.func59, Tryd.ntmps59
  go_wp2_with fail
  go_ret
  exact ⟨rfl, rfl⟩
set_option maxRecDepth 8000 in
set_option maxHeartbeats 1000000 in
theorem fEnd_any {q : Nat} {v : Value} {S : List Ent} {x : Itm Fk} (hd : dueAt S x.id = some x.due) (h : Sat B w0 w (blk t (.cells #[v, .pointer (some ⟨q, 0, none⟩), .int .i64 next] 178) • queue q room S • F)) :
    Calls Tryd.prog 108 #[.pointer (some ⟨t, 0, none⟩), .agg (itmC Fk.enc x).toArray] w fun e w' => e = .returned (.int .u64 x.due) ∧ Below w.heap.size w w' := by
  have hX := h.alloc (.cells (itmC Fk.enc x).toArray 180)
  have hid : (itmC Fk.enc x).toArray[18]? = some (.int .i64 x.id) := by simpa using itmC_id Fk.enc_length x
  have hS1 := hX.drew
  have hB : Below w.heap.size w (w.alloc (.cells (itmC Fk.enc x).toArray 180)).drew := (((Sat.start w).alloc_ _).drew).below
  have c1 := qAt_any hS1.pull3 x.id
  rw [hd] at c1
  have HID := Lib.hid hid
  generalize (itmC Fk.enc x).toArray = Y at *
  generalize x.due = xd at *
  generalize x.id = xi at *
  clear hX h hd hid
  go_enter Tryd.func108, Tryd.ntmps108
  go_wp2_with fail
  try go_frame
  refine wp_region_ord [(0, .pure), (1, .pure), (2, .pure), (3, .quiet), (4, .pure), (5, .quiet), (6, .seals), (7, .pure), (8, .pure), (9, .pure), (10, .pure), (11, .pure)] (by kernel_rfl) (by kernel_rfl)
    (fun w' => w'.cell? ⟨t, 1, none⟩ = some (.pointer (some ⟨q, 0, none⟩)) ∧ w'.cell? ⟨w.heap.size, 18, none⟩ = some (.int .i64 xi)) ⟨cell_heap hS1.pull2.heap rfl, cell_heap hS1.heap HID.out⟩ ?_
  iterate 3 (refine ord_pure rfl rfl rfl (fun K' hK => ?_); go_big_quiet_op; refine hK _ ?_; clear hK K')
  refine ord_load (t := 25) rfl rfl rfl (p := .pointer (some ⟨t, 1, none⟩)) (v := .pointer (some ⟨q, 0, none⟩)) rfl (fun w' hC => load_one Tryd.underlying25 rfl hC.1) (fun K' hK => ?_)
  go_simp
  refine hK _ ?_
  clear hK K'
  iterate 1 (refine ord_pure rfl rfl rfl (fun K' hK => ?_); go_big_quiet_op; refine hK _ ?_; clear hK K')
  refine ord_load (t := 3) rfl rfl rfl (p := .pointer (some ⟨w.heap.size, 18, none⟩)) (v := .int .i64 xi) rfl (fun w' hC => load_one Tryd.underlying3 rfl hC.2) (fun K' hK => ?_)
  go_simp
  refine hK _ ?_
  clear hK K'
  refine ord_seals rfl rfl (fun K' hK => ?_)
  go_simp
  refine (c1).mono ?_
  rintro e w3 ⟨rfl, rfl⟩
  refine hK (fun _ => True) _ _ trivial ?_
  clear hK K'
  go_simp
  iterate 5 (refine ord_pure rfl rfl rfl (fun K' hK => ?_); go_big_quiet_op; refine hK _ ?_; clear hK K')
  refine ord_nil ?_
  go_wp2_with fail
  go_ret
  exact ⟨rfl, hB⟩
end
end Go.Proofs.YtepaanpdjadakaaDoor
