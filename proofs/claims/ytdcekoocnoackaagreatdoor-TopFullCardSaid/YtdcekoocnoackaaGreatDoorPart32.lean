import Derived.Test.YtdcekoocnoackaaGreatDoorPart31
import Derived.Test.YtdcekoocnoackaaGreatDoorPart27
import Derived.Test.YtdcekoocnoackaaGreatDoorPart29
import Derived.Test.YtdcekoocnoackaaGreatDoorPart20
import Derived.Test.YtdcekoocnoackaaGreatDoorProg
import Derived.Test.YtdcekoocnoackaaGreatDoorPart05
import Derived.KernelRfl
import Derived.Test.YtdcekoocnoackaaGreatDoorPart12
import Derived.Test.YtdcekoocnoackaaGreatDoorPart06
import Derived.Laws.Strings
import Derived.WalkKit
import Derived.IntWalk
import Derived.Test.YtdcekoocnoackaaGreatDoorPart14

/-! policy.Covers, first, Net. -/
namespace Go.Proofs.YtdcekoocnoackaaGreatDoor
open Go Go.RowKit

set_option maxRecDepth 8000 in
set_option maxHeartbeats 2000000 in
theorem covers_3 (w : World) : Calls Tryz.prog 243 #[.agg pol3.toArray, .int .i64 17, .int .i64 6] w fun e w' => e = .returned (.bool true) ∧ Below w.heap.size w w' := by
  have hS := (Sat.start w).alloc (.cells pol3.toArray 170)
  have hB := hS.below
  have d0 : (w.alloc (.cells pol3.toArray 170)).cell? ⟨w.heap.size, 21, none⟩ = some (.int .i64 256) := cell_heap hS.heap rfl
  have d1 : (w.alloc (.cells pol3.toArray 170)).cell? ⟨w.heap.size, 22, none⟩ = some (.int .i64 0) := cell_heap hS.heap rfl
  have d2 : (w.alloc (.cells pol3.toArray 170)).cell? ⟨w.heap.size, 23, none⟩ = some (.int .i64 65535) := cell_heap hS.heap rfl
  generalize pol3.toArray = PK at *
  clear hS
  go_enter Tryz.func243, Tryz.ntmps243
  go_wp2_with fail
  go_ret
  exact ⟨rfl, hB⟩
set_option maxRecDepth 8000 in
set_option maxHeartbeats 4000000 in
theorem pfirst_any {B : Nat} {w0 w : World} {F : HP} {pol tl tb : Nat} {sv v : Value} {Ar : Option Addr} {cr : Nat} (h : Sat B w0 w (arr 3 1 v 1 [.int .i64 2] • blk pol (.cells #[sv, .slice Ar 3 cr, .pointer (some ⟨tl, 0, none⟩), .pointer (some ⟨tb, 0, none⟩)] 176) • arr 170 24 (.slice Ar 3 cr) 3 pols • F)) :
    Calls Tryz.prog 182 #[.pointer (some ⟨pol, 0, none⟩), v, .int .i64 17, .int .i64 6] w fun e w' => e = .returned (.bool true) ∧ Sat B w0 w' (blk pol (.cells #[sv, .slice Ar 3 cr, .pointer (some ⟨tl, 0, none⟩), .pointer (some ⟨tb, 0, none⟩)] 176) • arr 170 24 (.slice Ar 3 cr) 3 pols • F) := by
  obtain ⟨Al, cl, rfl⟩ := h.arr_form
  obtain ⟨gl, rfl, _, _, hgl⟩ := h.arr_shape
  have d0 : w.cell? ⟨gl, 0, none⟩ = some (.int .i64 2) := hgl _ (Below.refl _ _) 0 _ rfl
  have d1 : w.cell? ⟨pol, 1, none⟩ = some (.slice Ar 3 cr) := cell_heap h.pull2.heap rfl
  obtain ⟨gr, rfl, hld⟩ := pols_load h.pull3
  have hl1 := (hld _ (Below.refl _ _)).2.2
  have hst : ∀ z : Array Value, z.size = 24 → (Instr.storeAt 170 (.pointer (some ⟨w.heap.size, 0, none⟩)) (.agg pol3.toArray)).run Tryz.prog (w.alloc (.cells z 170)) = .ok () (w.alloc (.cells pol3.toArray 170)) :=
    fun z hz => run_storeAt_new (v := .agg pol3.toArray) (by kernel_rfl) (by rw [hz]; rfl) (by decide)
  have hS1 := h.alloc (.cells pol3.toArray 170)
  have hl2 : (Instr.loadAt 170 (.pointer (some ⟨w.heap.size, 0, none⟩))).run Tryz.prog (w.alloc (.cells pol3.toArray 170)) = .ok (.agg pol3.toArray) (w.alloc (.cells pol3.toArray 170)) :=
    run_loadAt_row (cs := pol3) hS1.heap Tryz.underlying170 rfl (by kernel_rfl) (fun j u hu => by simpa using hu)
  have c1 := covers_3 (w.alloc (.cells pol3.toArray 170))
  have hP0 : pol3.toArray[0]? = some (.bool true) := rfl
  generalize pol3.toArray = PK at *
  clear h hgl hld
  go_enter Tryz.func182, Tryz.ntmps182
  go_wp2_with fail
  refine wp_loop_rounds 2 ?_
  rw [rounds_succ]
  go_wp2_with (first | (refine wpList_load_run (t := 170) rfl rfl rfl hl1 ?_) | (refine wpList_store_run (t := 170) rfl rfl rfl rfl (hst _ rfl) (stop_ ?_)))
  unfold Stop
  clear hst hl1
  go_wp2_with (refine wpList_load_run (t := 170) rfl rfl rfl hl2 (stop_ ?_))
  unfold Stop
  clear hl2
  go_wp2_with fail
  refine c1.mono ?_
  rintro e w2 ⟨rfl, hb2⟩
  have hS2 := hS1.below_ hb2
  have dx : w2.cell? ⟨w.heap.size, 0, none⟩ = some (.bool true) := cell_heap hS2.heap hP0
  have HF := Lib.hid hS2.drop.drop
  clear hS1 hS2 c1 hb2 d0 d1
  go_wp2_with fail
  go_ret
  exact ⟨rfl, HF.out⟩
attribute [local irreducible] wpOrd
set_option maxRecDepth 8000 in
set_option maxHeartbeats 6000000 in
theorem net_any {B : Nat} {w0 w : World} {F : HP} {pol : Nat} (h : Sat B w0 w (policyH pol • F)) :
    Calls Tryz.prog 122 #[.pointer (some ⟨pol, 0, none⟩), .agg adB, .int .i64 17, .int .i64 6] w fun e w' => e = .returned (.bool true) ∧ Sat B w0 w' (policyH pol • F) := by
  obtain ⟨tl, tb, sv, rv, h1⟩ := h.pol_open
  obtain ⟨Ar, cr, rfl⟩ := h1.drop.drop.arr_form
  have hS1 := h1.alloc (.cells adB 36)
  have hld : ∀ W : World, W.heap[w.heap.size]? = some (.cells adB 36) → (Instr.loadAt 36 (.pointer (some ⟨w.heap.size, 0, none⟩))).run Tryz.prog W = .ok (.agg adB) W := fun W hW =>
    run_loadAt_row (cs := adB.toList) hW Tryz.underlying36 rfl (by kernel_rfl) (fun j u hu => by simpa using hu)
  have cm : ∀ (W : World) (G : HP), Sat B w0 W (trieH tb • G) → Calls Tryz.prog 183 #[.pointer (some ⟨tb, 0, none⟩), .agg adB] W fun e w' => ∃ v', e = .returned v' ∧ Sat B w0 w' (arr 3 1 v' 1 [.int .i64 2] • trieH tb • G) := fun W G hG => match_any hG
  generalize hq : w.heap.size = q at *
  generalize adB = SB at *
  clear h h1
  go_enter Tryz.func122, Tryz.ntmps122
  go_wp2_with fail
  try go_frame
  refine wp_region_ord [(0, .pure), (1, .pure), (2, .pure), (3, .pure), (4, .pure), (5, .pure), (6, .pure), (7, .quiet), (8, .quiet), (10, .pure), (11, .pure), (9, .acts), (12, .acts), (13, .pure), (14, .pure)] (by kernel_rfl) (by kernel_rfl)
    (fun w' => w'.heap[q]? = some (.cells SB 36) ∧ w'.heap[pol]? = some (.cells #[sv, .slice Ar 3 cr, .pointer (some ⟨tl, 0, none⟩), .pointer (some ⟨tb, 0, none⟩)] 176)) ⟨hS1.drew.heap, hS1.drew.pull2.heap⟩ ?_
  iterate 7 (refine ord_pure rfl rfl rfl (fun K' hK => ?_); go_big_quiet_op; refine hK _ ?_; clear hK K')
  refine ord_load (t := 173) rfl rfl rfl (p := .pointer (some ⟨pol, 3, none⟩)) (v := .pointer (some ⟨tb, 0, none⟩)) rfl (fun w' hC => run_loadAt_one hC.2 Tryz.underlying173 rfl rfl) (fun K' hK => ?_)
  go_simp
  refine hK _ ?_
  clear hK K'
  refine ord_load (t := 36) rfl rfl rfl (p := .pointer (some ⟨q, 0, none⟩)) (v := .agg SB) rfl (fun w' hC => hld _ hC.1) (fun K' hK => ?_)
  go_simp
  refine hK _ ?_
  clear hK K'
  iterate 2 (refine ord_pure rfl rfl rfl (fun K' hK => ?_); go_big_quiet_op; refine hK _ ?_; clear hK K')
  refine ord_acts rfl rfl (fun K' hK => ?_)
  go_simp
  refine (cm _ _ (hS1.drew.to (by ac_rfl : _ = trieH tb • (blk q (.cells SB 36) • blk pol (.cells #[sv, .slice Ar 3 cr, .pointer (some ⟨tl, 0, none⟩), .pointer (some ⟨tb, 0, none⟩)] 176) • arr 36 17 sv 1 srvA • arr 170 24 (.slice Ar 3 cr) 3 pols • F)))).mono ?_
  rintro e u1 ⟨v, rfl, hU1⟩
  refine hK _ _ (⟨hU1.pull3.heap, hU1.pull4.heap⟩) ?_
  clear hK K'
  go_simp
  refine ord_acts rfl rfl (fun K' hK => ?_)
  go_simp
  refine (pfirst_any (hU1.to (by ac_rfl : _ = arr 3 1 v 1 [.int .i64 2] • blk pol (.cells #[sv, .slice Ar 3 cr, .pointer (some ⟨tl, 0, none⟩), .pointer (some ⟨tb, 0, none⟩)] 176) • arr 170 24 (.slice Ar 3 cr) 3 pols • (blk q (.cells SB 36) • arr 36 17 sv 1 srvA • trieH tb • F)))).mono ?_
  rintro e u2 ⟨rfl, hU2⟩
  refine hK _ _ (⟨hU2.pull3.heap, hU2.heap⟩) ?_
  clear hK K'
  go_simp
  iterate 2 (refine ord_pure rfl rfl rfl (fun K' hK => ?_); go_big_quiet_op; refine hK _ ?_; clear hK K')
  refine ord_nil ?_
  have hfin := (hU2.to (by ac_rfl : _ = blk q (.cells SB 36) • (blk pol (.cells #[sv, .slice Ar 3 cr, .pointer (some ⟨tl, 0, none⟩), .pointer (some ⟨tb, 0, none⟩)] 176) • arr 36 17 sv 1 srvA • arr 170 24 (.slice Ar 3 cr) 3 pols • trieH tb • F))).drop.pol_shut
  have HF := Lib.hid hfin
  clear hfin hU2 hU1 hS1
  go_wp2_with fail
  go_ret
  exact ⟨rfl, HF.out⟩
end Go.Proofs.YtdcekoocnoackaaGreatDoor

/-! policy.Parse at the text. -/
namespace Go.Proofs.YtdcekoocnoackaaGreatDoor
open Go Go.RowKit

theorem plainText (w : World) : Calls Tryz.prog 5 #[] w fun e w' => e = .returned (.string plainB) ∧ w' = w := by
  unfold plainB
  go_enter Tryz.func5, Tryz.ntmps5
  go_wp2_with fail
  go_ret
  exact ⟨rfl, rfl⟩
set_option maxRecDepth 8000 in
set_option maxHeartbeats 4000000 in
theorem pparse_any {B : Nat} {w0 w : World} {F : HP} (hB : 1 < B) (hM : Mx w0) (hE : Et w0) (h : Sat B w0 w F) :
    Calls Tryz.prog 12 #[.string plainB] w fun e w' => ∃ pol : Nat, e = .returned (.tuple #[.pointer (some ⟨pol, 0, none⟩), .nilIface]) ∧ Sat B w0 w' (policyH pol • F) := by
  have c1 := tokens_any h plainB (by decide) 200 plainT plain_toks (by decide)
  clear h
  generalize plainB = TXT at *
  go_enter Tryz.func12, Tryz.ntmps12
  go_wp2_with fail
  refine c1.mono ?_
  rintro e w1 ⟨v, rfl, hS1⟩
  have c2 := rparse_any hB hM hE hS1
  clear c1 hS1
  go_wp2_with fail
  refine c2.mono ?_
  rintro e w2 ⟨sv, rv, rfl, hS2⟩
  clear c2
  obtain ⟨Ar, cr, rfl⟩ := hS2.arr_form
  obtain ⟨As, cs, rfl⟩ := hS2.drop.arr_form
  have hS3 := hS2.alloc (.cells #[.slice As 1 cs, .slice Ar 3 cr] 88)
  have hl : (Instr.loadAt 88 (.pointer (some ⟨w2.heap.size, 0, none⟩))).run Tryz.prog (w2.alloc (.cells #[.slice As 1 cs, .slice Ar 3 cr] 88)) = .ok (.agg #[.slice As 1 cs, .slice Ar 3 cr]) (w2.alloc (.cells #[.slice As 1 cs, .slice Ar 3 cr] 88)) :=
    run_loadAt_row (cs := [.slice As 1 cs, .slice Ar 3 cr]) hS3.heap Tryz.underlying88 rfl (by kernel_rfl) (fun j u hu => by simpa using hu)
  have c3 := compile_any hB hM hE (show Sat B w0 _ (arr 170 24 (.slice Ar 3 cr) 3 pols • arr 36 17 (.slice As 1 cs) 1 srvA • F) from hS3.drop)
  clear hS2 hS3
  go_wp2_with (refine wpList_load_run (t := 88) rfl rfl rfl hl (stop_ ?_))
  unfold Stop
  clear hl
  go_wp2_with fail
  refine c3.mono ?_
  rintro e w3 ⟨pol, rfl, hS4⟩
  clear c3
  go_wp2_with fail
  go_ret2
  exact ⟨pol, rfl, hS4⟩
end Go.Proofs.YtdcekoocnoackaaGreatDoor

/-! Addresses. -/
namespace Go.Proofs.YtdcekoocnoackaaGreatDoor
open Go Go.RowKit

/-- An address: its version, and its bytes. -/
structure Adr where
  v6 : Bool
  b : List Int
  len : b.length = 16
  deriving DecidableEq

def Adr.enc (a : Adr) : List Value := .bool a.v6 :: a.b.map (.int .u8)
theorem Adr.enc_length (a : Adr) : a.enc.length = 17 := by simp [Adr.enc, a.len]
theorem Adr.enc_one (a : Adr) : ∀ u ∈ a.enc, u.oneCell' = true := by
  intro u hu
  simp only [Adr.enc, List.mem_cons, List.mem_map] at hu
  rcases hu with rfl | ⟨x, _, rfl⟩ <;> rfl
theorem adr_eq {w : World} (d : Nat) (a b : Adr) : EqV Tryz.prog w (d + 3) 36 (.agg a.enc.toArray) (.agg b.enc.toArray) (decide (a = b)) := by
  have h1 := EqV.ints (P := Tryz.prog) (w := w) (d := d) (k := .u8) (la := a.b) (lb := b.b) Tryz.underlying34 Tryz.underlying5 (by kernel_rfl) a.len b.len
  have h0 : EqV Tryz.prog w (d + 2) 4 (.bool a.v6) (.bool b.v6) (a.v6 == b.v6) := EqV.bool Tryz.underlying4
  have hd : decide (a = b) = ((a.v6 == b.v6) && (decide (a.b = b.b) && true)) := by
    obtain ⟨v, l, hl⟩ := a
    obtain ⟨v', l', hl'⟩ := b
    rw [Bool.eq_iff_iff]; simp
  rw [hd]
  refine EqV.struct Tryz.underlying36 (by kernel_rfl) ?_
  refine EqF.cons (a := .bool a.v6) (b := .bool b.v6) (by decide) (run_part_one Tryz.underlying4 rfl rfl) (run_part_one Tryz.underlying4 rfl rfl) h0 ?_
  refine EqF.cons (by decide) (run_part_row Tryz.underlying34 rfl (mid := a.b.map (.int .u8)) (by rw [List.length_map, a.len]; kernel_rfl) (List.take_of_length_le (Nat.le_refl _))) (run_part_row Tryz.underlying34 rfl (mid := b.b.map (.int .u8)) (by rw [List.length_map, b.len]; kernel_rfl) (List.take_of_length_le (Nat.le_refl _))) h1 ?_
  exact EqF.nil
end Go.Proofs.YtdcekoocnoackaaGreatDoor

/-! Two lists held against each other, in plain words; loads out of rows that came in. -/
namespace Go.Proofs.YtdcekoocnoackaaGreatDoor
open Go Go.RowKit

def sameOf {α : Type} (eq : α → α → Bool) : List α → List α → Bool
  | [], [] => true
  | x :: xs, y :: ys => eq x y && sameOf eq xs ys
  | _, _ => false
/-- Alike, by '='. -/
def eqD {α : Type} [DecidableEq α] (a b : α) : Bool := decide (a = b)
def strC (s : ByteArray) : List Value := [.string s]
section
variable {P : Program} {w : World} {α : Type} {e : α → List Value} {sz : Nat} {v : Value} {l : List α} {i : Nat} {x : α} {a : Addr} {n c : Nat} {ty : TypeId} {d : TypeDesc}
end
end Go.Proofs.YtdcekoocnoackaaGreatDoor

/-! Queries. -/
namespace Go.Proofs.YtdcekoocnoackaaGreatDoor
open Go Go.RowKit

structure Qst where
  name : ByteArray
  typ : Int
  cls : Int
  deriving DecidableEq
def Qst.enc (q : Qst) : List Value := [.string q.name, .int .i64 q.typ, .int .i64 q.cls]
structure Qry where
  client : Adr
  server : Adr
  port : Int
  id : Int
  tcp : Bool
  qst : Qst
  deriving DecidableEq
def Qry.enc (q : Qry) : List Value := q.client.enc ++ (q.server.enc ++ ([.int .i64 q.port, .int .i64 q.id, .bool q.tcp] ++ q.qst.enc))
abbrev Qry.enc_sz : Nat := 40
theorem Qst.enc_length (q : Qst) : q.enc.length = 3 := rfl
theorem Qry.enc_length (q : Qry) : q.enc.length = 40 := by simp [Qry.enc, Qst.enc, Adr.enc_length]
theorem Qry.enc_one (q : Qry) : ∀ u ∈ q.enc, u.oneCell' = true := by
  intro u hu
  simp only [Qry.enc, Qst.enc, List.mem_append, List.mem_cons, List.not_mem_nil, or_false] at hu
  rcases hu with h | h | (rfl | rfl | rfl) | rfl | rfl | rfl
  · exact q.client.enc_one u h
  · exact q.server.enc_one u h
  all_goals rfl
instance : Inhabited Adr := ⟨⟨false, List.replicate 16 0, rfl⟩⟩
instance : Inhabited Qry := ⟨⟨default, default, 0, 0, false, ⟨⟨#[]⟩, 0, 0⟩⟩⟩
theorem Qry.part0 (q : Qry) : (q.enc.drop 0).take q.client.enc.length = q.client.enc := by
  rw [List.drop_zero, Qry.enc, List.take_left']; rfl
theorem Qry.part17 (q : Qry) : (q.enc.drop 17).take q.server.enc.length = q.server.enc := by
  rw [Qry.enc, List.drop_left' (Adr.enc_length _), List.take_left']; rfl
theorem Qry.drop34 (q : Qry) : q.enc.drop 34 = [.int .i64 q.port, .int .i64 q.id, .bool q.tcp] ++ q.qst.enc := by
  rw [show (34 : Nat) = 17 + 17 from rfl, ← List.drop_drop, Qry.enc, List.drop_left' (Adr.enc_length _), List.drop_left' (Adr.enc_length _)]
theorem Qry.at34 (q : Qry) (j : Nat) : q.enc[34 + j]? = ([.int .i64 q.port, .int .i64 q.id, .bool q.tcp] ++ q.qst.enc)[j]? := by
  rw [← Qry.drop34, List.getElem?_drop]
theorem Qry.at0 (q : Qry) (j : Nat) (hj : j < 17) : q.enc[j]? = q.client.enc[j]? := by
  have h := q.part0
  rw [← h, List.getElem?_take, if_pos (by rw [Adr.enc_length]; exact hj), List.drop_zero]
end Go.Proofs.YtdcekoocnoackaaGreatDoor

/-! Ways and flows. -/
namespace Go.Proofs.YtdcekoocnoackaaGreatDoor
open Go Go.RowKit

structure Tup where
  src : Adr
  dst : Adr
  proto : Int
  sp : Int
  dp : Int
  deriving DecidableEq
instance : Inhabited Tup := ⟨⟨default, default, 0, 0, 0⟩⟩
def Tup.enc (t : Tup) : List Value := t.src.enc ++ (t.dst.enc ++ [.int .i64 t.proto, .int .i64 t.sp, .int .i64 t.dp])
abbrev Tup.enc_sz : Nat := 37
theorem Tup.enc_length (t : Tup) : t.enc.length = 37 := by simp [Tup.enc, Adr.enc_length]
theorem Tup.enc_one (t : Tup) : ∀ u ∈ t.enc, u.oneCell' = true := by
  intro u hu
  simp only [Tup.enc, List.mem_append, List.mem_cons, List.not_mem_nil, or_false] at hu
  rcases hu with h | h | rfl | rfl | rfl
  · exact t.src.enc_one u h
  · exact t.dst.enc_one u h
  all_goals rfl
structure Flw where
  tup : Tup
  st : Int
  fin : Int
  due : Int
  deriving DecidableEq
instance : Inhabited Flw := ⟨⟨default, 0, 0, 0⟩⟩
def Flw.enc (f : Flw) : List Value := f.tup.enc ++ [.int .i64 f.st, .int .i64 f.fin, .int .u64 f.due]
abbrev Flw.enc_sz : Nat := 40
theorem Flw.enc_length (f : Flw) : f.enc.length = 40 := by simp [Flw.enc, Tup.enc_length]
theorem Flw.enc_one (f : Flw) : ∀ u ∈ f.enc, u.oneCell' = true := by
  intro u hu
  simp only [Flw.enc, List.mem_append, List.mem_cons, List.not_mem_nil, or_false] at hu
  rcases hu with h | rfl | rfl | rfl
  · exact f.tup.enc_one u h
  all_goals rfl
theorem Tup.part0 (q : Tup) : (q.enc.drop 0).take q.src.enc.length = q.src.enc := by
  rw [List.drop_zero, Tup.enc, List.take_left']; rfl
theorem Tup.part17 (q : Tup) : (q.enc.drop 17).take q.dst.enc.length = q.dst.enc := by
  rw [Tup.enc, List.drop_left' (Adr.enc_length _), List.take_left']; rfl
theorem Tup.drop34 (q : Tup) : q.enc.drop 34 = [.int .i64 q.proto, .int .i64 q.sp, .int .i64 q.dp] := by
  rw [show (34 : Nat) = 17 + 17 from rfl, ← List.drop_drop, Tup.enc, List.drop_left' (Adr.enc_length _), List.drop_left' (Adr.enc_length _)]
theorem Tup.at34 (q : Tup) (j : Nat) : q.enc[34 + j]? = ([.int .i64 q.proto, .int .i64 q.sp, .int .i64 q.dp] : List Value)[j]? := by
  rw [← Tup.drop34, List.getElem?_drop]
theorem Tup.at0 (q : Tup) (j : Nat) (hj : j < 17) : q.enc[j]? = q.src.enc[j]? := by
  have h := q.part0
  rw [← h, List.getElem?_take, if_pos (by rw [Adr.enc_length]; exact hj), List.drop_zero]
theorem Flw.part0 (f : Flw) : (f.enc.drop 0).take f.tup.enc.length = f.tup.enc := by
  rw [List.drop_zero, Flw.enc, List.take_left']; rfl
theorem Flw.drop37 (f : Flw) : f.enc.drop 37 = [.int .i64 f.st, .int .i64 f.fin, .int .u64 f.due] := by
  rw [Flw.enc, List.drop_left' (Tup.enc_length _)]
theorem Flw.at37 (f : Flw) (j : Nat) : f.enc[37 + j]? = ([.int .i64 f.st, .int .i64 f.fin, .int .u64 f.due] : List Value)[j]? := by
  rw [← Flw.drop37, List.getElem?_drop]
theorem Flw.at0 (f : Flw) (j : Nat) (hj : j < 37) : f.enc[j]? = f.tup.enc[j]? := by
  have h := f.part0
  rw [← h, List.getElem?_take, if_pos (by rw [Tup.enc_length]; exact hj), List.drop_zero]
theorem tup_eq {w : World} (d : Nat) (a b : Tup) : EqV Tryz.prog w (d + 4) 39 (.agg a.enc.toArray) (.agg b.enc.toArray) (decide (a = b)) := by
  have hd : decide (a = b) = (decide (a.src = b.src) && (decide (a.dst = b.dst) && ((a.proto == b.proto) && ((a.sp == b.sp) && ((a.dp == b.dp) && true))))) := by
    obtain ⟨a1, a2, a3, a4, a5⟩ := a
    obtain ⟨b1, b2, b3, b4, b5⟩ := b
    rw [Bool.eq_iff_iff]; simp
  rw [hd]
  refine EqV.struct Tryz.underlying39 (by kernel_rfl) ?_
  refine EqF.cons (by decide) (run_part_row Tryz.underlying36 rfl (by rw [Adr.enc_length]; kernel_rfl) a.part0) (run_part_row Tryz.underlying36 rfl (by rw [Adr.enc_length]; kernel_rfl) b.part0) (adr_eq d _ _) ?_
  refine EqF.cons (by decide) (run_part_row Tryz.underlying36 rfl (by rw [Adr.enc_length]; kernel_rfl) a.part17) (run_part_row Tryz.underlying36 rfl (by rw [Adr.enc_length]; kernel_rfl) b.part17) (adr_eq d _ _) ?_
  refine EqF.cons (by decide) (run_part_one Tryz.underlying3 rfl (a.at34 0)) (run_part_one Tryz.underlying3 rfl (b.at34 0)) (EqV.int Tryz.underlying3) ?_
  refine EqF.cons (by decide) (run_part_one Tryz.underlying3 rfl (a.at34 1)) (run_part_one Tryz.underlying3 rfl (b.at34 1)) (EqV.int Tryz.underlying3) ?_
  refine EqF.cons (by decide) (run_part_one Tryz.underlying3 rfl (a.at34 2)) (run_part_one Tryz.underlying3 rfl (b.at34 2)) (EqV.int Tryz.underlying3) ?_
  exact EqF.nil
end Go.Proofs.YtdcekoocnoackaaGreatDoor

/-! Sums that do not go round. -/
namespace Go.Proofs.YtdcekoocnoackaaGreatDoor
open Go Go.RowKit

def aft (now n : Int) : Int := if n > 18446744073709551615 - now then 18446744073709551615 else now + n
theorem aft_yes {now n : Int} (h : n > 18446744073709551615 - now) : aft now n = 18446744073709551615 := by unfold aft; rw [if_pos h]
theorem aft_no {now n : Int} (h : ¬ n > 18446744073709551615 - now) : aft now n = now + n := by unfold aft; rw [if_neg h]
end Go.Proofs.YtdcekoocnoackaaGreatDoor

/-! Flows, in plain words. -/
namespace Go.Proofs.YtdcekoocnoackaaGreatDoor
open Go Go.RowKit

def hasF (flags m : Int) : Bool := bits .and .i64 flags m != 0
def beginsF (proto flags : Int) : Bool := if proto = 6 then hasF flags 2 && !hasF flags 21 else decide (proto = 17) || decide (proto = 1) || decide (proto = 58)
def lastsF (proto st : Int) : Int := if st = 1 then 30 else if st = 2 then 30 else if st = 3 then 3600 else if st = 4 then 60 else if st = 5 then 60 else if proto = 17 then (if st = 6 then 30 else 180) else 30
theorem lastsF_bd (proto st : Int) : 0 ≤ lastsF proto st ∧ lastsF proto st ≤ 18446744073709551615 := by
  unfold lastsF
  repeat' split
  all_goals omega
/-- A state, and who closed first. -/
structure Ph where
  st : Int
  fin : Int
  deriving DecidableEq
def answersF (flags : Int) : Bool := hasF flags 2 && (hasF flags 16 && !hasF flags 1)
def firstF (flags : Int) : Bool := hasF flags 2 && !hasF flags 17
def closesF (p : Ph) (side flags : Int) : Ph := if hasF flags 1 then ⟨4, side⟩ else p
def openingF (p : Ph) (side flags : Int) : Bool × Ph :=
  if side = 1 then (if answersF flags then (true, ⟨2, p.fin⟩) else (false, p))
  else if firstF flags then (true, p)
  else if p.st = 1 then (false, p)
  else if hasF flags 2 then (false, p)
  else if hasF flags 16 then (true, closesF ⟨3, p.fin⟩ side flags)
  else (false, p)
def openF (p : Ph) (side flags : Int) : Bool × Bool × Ph :=
  if hasF flags 2 then (false, false, p)
  else if p.st = 3 then (true, false, closesF p side flags)
  else if p.st = 4 ∧ hasF flags 1 = true ∧ side ≠ p.fin then (true, false, ⟨5, p.fin⟩)
  else if p.st = 5 then (true, hasF flags 16 && (!hasF flags 1 && decide (side = p.fin)), p)
  else (true, false, p)
def seeF (proto : Int) (p : Ph) (side flags : Int) : Bool × Bool × Ph :=
  if proto = 6 then
    (if hasF flags 4 then (if p.st ≠ 1 ∨ side = 0 ∨ hasF flags 16 = true then (true, true, p) else (false, false, p))
    else if p.st = 1 ∨ p.st = 2 then ((openingF p side flags).1, false, (openingF p side flags).2)
    else openF p side flags)
  else if side = 1 then (true, false, ⟨7, p.fin⟩) else (true, false, p)

structure Fky where
  p : Nat
  tup : Tup
  ph : Ph
abbrev FIt := Itm Fky
def flwOf (x : FIt) : Flw := ⟨x.key.tup, x.key.ph.st, x.key.ph.fin, x.due⟩
def isW (w : Tup) (x : FIt) : Bool := decide (x.key.tup = w)
def KNW (R : List FIt) : Prop := (R.map (·.key.tup)).Nodup
/-- One flow noted anew. -/
def noteR (R : List FIt) (id : Int) (ph : Ph) (u : Int) : List FIt := R.map fun x => if x.id = id then ⟨{ x.key with ph := ph }, x.id, u⟩ else x
section
variable {R : List FIt} {next : Int}
theorem noteR_ents (id : Int) (ph : Ph) (u : Int) : ents (noteR R id ph u) = withDue (ents R) id u := by
  unfold ents noteR withDue
  rw [List.map_map, List.map_map]
  apply List.map_congr_left
  intro x _
  simp only [Function.comp]
  by_cases e : x.id = id
  · simp [e]
  · simp [e]
theorem noteR_ids (id : Int) (ph : Ph) (u : Int) : (noteR R id ph u).map (·.id) = R.map (·.id) := by
  unfold noteR
  rw [List.map_map]
  apply List.map_congr_left
  intro x _
  simp only [Function.comp]
  split <;> rfl
theorem noteR_tups (id : Int) (ph : Ph) (u : Int) : (noteR R id ph u).map (·.key.tup) = R.map (·.key.tup) := by
  unfold noteR
  rw [List.map_map]
  apply List.map_congr_left
  intro x _
  simp only [Function.comp]
  split <;> rfl
theorem noteR_length (id : Int) (ph : Ph) (u : Int) : (noteR R id ph u).length = R.length := by simp [noteR]
theorem Good.noteR (h : Good R next) (id : Int) (ph : Ph) (u : Int) : Good (noteR R id ph u) next := by
  refine ⟨by rw [noteR_ids]; exact h.1, fun x hx => ?_⟩
  have : x.id ∈ (YtdcekoocnoackaaGreatDoor.noteR R id ph u).map (·.id) := List.mem_map.2 ⟨x, hx, rfl⟩
  rw [noteR_ids] at this
  obtain ⟨y, hy, e⟩ := List.mem_map.1 this
  rw [← e]; exact h.2 y hy
theorem noteR_set {k : Nat} {x : FIt} (hg : Good R next) (h : R[k]? = some x) (ph : Ph) (u : Int) : noteR R x.id ph u = R.set k ⟨{ x.key with ph := ph }, x.id, u⟩ := by
  have hk := (List.getElem?_eq_some_iff.1 h).1
  unfold noteR
  apply List.ext_getElem?
  intro j
  rw [List.getElem?_map]
  by_cases e : k = j
  · subst e
    rw [List.getElem?_set_self hk, h]
    simp
  · rw [List.getElem?_set_ne e]
    cases hy : R[j]? with
    | none => rfl
    | some y =>
      have hne : ¬ y.id = x.id := fun h2 => e (by
        have h1 : (R.map (·.id))[k]? = (R.map (·.id))[j]? := by rw [List.getElem?_map, List.getElem?_map, h, hy]; simp [h2]
        exact (List.getElem?_inj (by simpa using hk) hg.1).1 h1)
      simp [hne]
/-- What begins. -/
def begC (room : Nat) (R : List FIt) (w : Tup) (flags : Int) : Int := if beginsF w.proto flags then (if R.any (isW w) then 19 else if room ≤ R.length then 18 else 0) else 1
def begP (w : Tup) : Ph := ⟨if w.proto = 6 then 1 else 6, 0⟩
def begU (w : Tup) (now : Int) : Int := aft now (lastsF w.proto (begP w).st)
theorem KNW.nil : KNW [] := by simp [KNW]
theorem KNW.filter (h : KNW R) (p : FIt → Bool) : KNW (R.filter p) := (List.filter_sublist.map _).nodup h
theorem any_tup {w : Tup} : R.any (isW w) = true ↔ w ∈ R.map (·.key.tup) := by
  rw [List.any_eq_true, List.mem_map]
  constructor
  · rintro ⟨x, hx, h⟩; exact ⟨x, hx, by simpa [isW] using h⟩
  · rintro ⟨x, hx, h⟩; exact ⟨x, hx, by simpa [isW] using h⟩
theorem KNW.add (h : KNW R) {w : Tup} (ha : R.any (isW w) = false) (p : Nat) (ph : Ph) (id u : Int) : KNW (R ++ [⟨⟨p, w, ph⟩, id, u⟩]) := by
  unfold KNW at *
  rw [List.map_append, List.nodup_append]
  refine ⟨h, by simp, ?_⟩
  intro a ha' b hb
  simp only [List.map_cons, List.map_nil, List.mem_singleton] at hb
  subst hb
  rintro rfl
  rw [any_tup.2 ha'] at ha
  cases ha
end
end Go.Proofs.YtdcekoocnoackaaGreatDoor
