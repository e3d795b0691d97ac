import Derived.Test.YtepaanpdjadakaaGreatDoorWay
/-! Tables of one flow. -/
namespace Go.Proofs.YtepaanpdjadakaaGreatDoor
open Go Go.RowKit

theorem way_any (i : Int) (w : World) : Calls Tryz.prog 6 #[.int .i64 i] w fun e w' => e = .returned (.agg (wayT i).enc.toArray) ∧ Below w.heap.size w w' := by
  obtain ⟨u0, u1⟩ := u64_bd i
  refine way_of i (wayP i) (wayS i) (IntKind.u64.wrap i % 6).toNat (by omega) rfl ?_ w
  unfold wayP
  have h0 := Int.emod_nonneg (IntKind.u64.wrap i) (show (6 : Int) ≠ 0 by decide)
  have h1 := Int.emod_lt_of_pos (IntKind.u64.wrap i) (show (0 : Int) < 6 by decide)
  generalize IntKind.u64.wrap i % 6 = r at *
  obtain rfl | rfl | rfl | rfl | rfl | rfl : r = 0 ∨ r = 1 ∨ r = 2 ∨ r = 3 ∨ r = 4 ∨ r = 5 := by omega
  all_goals simp
theorem way0 : wayT 0 = tupP 6 0 := by decide
theorem way2 : wayT 2 = tupP 17 0 := by decide
theorem way3 : wayT 3 = tupP 1 0 := by decide
theorem way5 : wayT 5 = tupP 99 0 := by decide
def oneR (p : Nat) (q : Tup) (ph : Ph) (u : Int) : List FIt := [⟨⟨p, q, ph⟩, 0, u⟩]
theorem oneR_KN (p : Nat) (q : Tup) (ph : Ph) (u : Int) : KNW (oneR p q ph u) := by simp [KNW, oneR]
theorem seeR_one (p : Nat) (q : Tup) (ph : Ph) (u side flags now : Int) (hs : side = 0 ∨ side = 1) : seeR (oneR p q ph u) q side flags now =
    if (seeF q.proto ph side flags).1 = true then
      (if (seeF q.proto ph side flags).2.1 = true then (true, []) else (true, oneR p q (seeF q.proto ph side flags).2.2 (aft now (lastsF q.proto (seeF q.proto ph side flags).2.2.st))))
    else (false, oneR p q ph u) := by
  have h1 : (oneR p q ph u).find? (isW q) = some ⟨⟨p, q, ph⟩, 0, u⟩ := by simp [oneR, isW]
  have h2 : ((oneR p q ph u).filter fun y => !isW q y) = [] := by simp [oneR, isW]
  have h3 : ∀ ph' u', noteR (oneR p q ph u) 0 ph' u' = oneR p q ph' u' := by intro ph' u'; simp [oneR, noteR]
  unfold seeR
  rw [h1]
  simp only [if_pos hs, h2, h3]
theorem begR_nil (room : Nat) (p : Nat) (q : Tup) (flags now : Int) (hr : 0 < room) (hb : beginsF q.proto flags = true) : begC room [] q flags = 0 ∧ begR room [] 0 p q flags now = oneR p q (begP q) (begU q now) ∧ begN room [] 0 q flags = 1 := by
  have hc : begC room [] q flags = 0 := by
    unfold begC
    rw [hb]
    simp only [List.any_nil, Bool.false_eq_true, if_false, if_true, List.length_nil]
    rw [if_neg (by omega)]
  unfold begR begN
  rw [hc, if_pos rfl, if_pos rfl]
  exact ⟨rfl, rfl, rfl⟩
theorem getV_one (p : Nat) (q : Tup) (ph : Ph) (u : Int) : getV (oneR p q ph u) q = .tuple #[.agg (Flw.enc ⟨q, ph.st, ph.fin, u⟩).toArray, .bool true] := by
  have h1 : (oneR p q ph u).find? (isW q) = some ⟨⟨p, q, ph⟩, 0, u⟩ := by simp [oneR, isW]
  unfold getV
  rw [h1]
  rfl
theorem getV_nil (q : Tup) : getV [] q = .tuple #[.agg zFlw.enc.toArray, .bool false] := rfl
theorem seeR_nil (q : Tup) (side flags now : Int) : seeR [] q side flags now = (false, []) := rfl
section
variable {B : Nat} {w0 w w' : World} {F : HP} {t room p : Nat} {next u : Int} {q : Tup} {ph ph' : Ph} {side flags now : Int}
theorem see1_no (h : Sat B w0 w (fltab t room (oneR p q ph u) next • F)) (hs : side = 0 ∨ side = 1) (hn : 0 ≤ now ∧ now ≤ 18446744073709551615) (hf : (seeF q.proto ph side flags).1 = false) : Calls Tryz.prog 10 #[.pointer (some ⟨t, 0, none⟩), .agg q.enc.toArray, .int .i64 side, .int .i64 flags, .int .u64 now] w fun e w' =>
    e = .returned (.bool false) ∧ Sat B w0 w' (fltab t room (oneR p q ph u) next • F) := by
  have := flSee_any h (oneR_KN p q ph u) q side flags now hn.1 hn.2
  rw [seeR_one p q ph u side flags now hs, hf] at this
  exact this
theorem see1_yes (h : Sat B w0 w (fltab t room (oneR p q ph u) next • F)) (hs : side = 0 ∨ side = 1) (hn : 0 ≤ now ∧ now ≤ 18446744073709551615) {u' : Int} (hf : seeF q.proto ph side flags = (true, false, ph')) (hu : aft now (lastsF q.proto ph'.st) = u') : Calls Tryz.prog 10 #[.pointer (some ⟨t, 0, none⟩), .agg q.enc.toArray, .int .i64 side, .int .i64 flags, .int .u64 now] w fun e w' =>
    e = .returned (.bool true) ∧ Sat B w0 w' (fltab t room (oneR p q ph' u') next • F) := by
  have := flSee_any h (oneR_KN p q ph u) q side flags now hn.1 hn.2
  rw [seeR_one p q ph u side flags now hs, hf] at this
  simp only [if_true, Bool.false_eq_true, if_false, hu] at this
  exact this
theorem see1_end (h : Sat B w0 w (fltab t room (oneR p q ph u) next • F)) (hs : side = 0 ∨ side = 1) (hn : 0 ≤ now ∧ now ≤ 18446744073709551615) (hf : seeF q.proto ph side flags = (true, true, ph')) : Calls Tryz.prog 10 #[.pointer (some ⟨t, 0, none⟩), .agg q.enc.toArray, .int .i64 side, .int .i64 flags, .int .u64 now] w fun e w' =>
    e = .returned (.bool true) ∧ Sat B w0 w' (fltab t room [] next • F) := by
  have := flSee_any h (oneR_KN p q ph u) q side flags now hn.1 hn.2
  rw [seeR_one p q ph u side flags now hs, hf] at this
  simp only [if_true] at this
  exact this
theorem see0_no (h : Sat B w0 w (fltab t room [] next • F)) (q : Tup) (side flags now : Int) (hn : 0 ≤ now ∧ now ≤ 18446744073709551615) : Calls Tryz.prog 10 #[.pointer (some ⟨t, 0, none⟩), .agg q.enc.toArray, .int .i64 side, .int .i64 flags, .int .u64 now] w fun e w' =>
    e = .returned (.bool false) ∧ Sat B w0 w' (fltab t room [] next • F) := by
  have := flSee_any h KNW.nil q side flags now hn.1 hn.2
  rw [seeR_nil] at this
  exact this
theorem beg1 (h : Sat B w0 w (fltab t room [] 0 • F)) (hB : 0 < B) (hE : Et w0) (hn : 0 ≤ now ∧ now ≤ 18446744073709551615) (hr : 0 < room) (hb : beginsF q.proto flags = true) : Calls Tryz.prog 18 #[.pointer (some ⟨t, 0, none⟩), .agg q.enc.toArray, .int .i64 flags, .int .u64 now] w fun e w' =>
    ∃ p, e = .returned .nilIface ∧ Sat B w0 w' (fltab t room (oneR p q (begP q) (begU q now)) 1 • F) := by
  refine (flBegin_any h hB hE (by omega) q flags now hn.1 hn.2).mono ?_
  rintro e w' ⟨p, rfl, h2⟩
  obtain ⟨h3, h4, h5⟩ := begR_nil room p q flags now hr hb
  rw [h4, h5] at h2
  rw [h3]
  exact ⟨p, rfl, h2⟩
theorem get1 (h : Sat B w0 w (fltab t room (oneR p q ph u) next • F)) : Calls Tryz.prog 20 #[.pointer (some ⟨t, 0, none⟩), .agg q.enc.toArray] w fun e w' => e = .returned (.tuple #[.agg (Flw.enc ⟨q, ph.st, ph.fin, u⟩).toArray, .bool true]) ∧ Sat B w0 w' (fltab t room (oneR p q ph u) next • F) := by
  have := flGet_any h q
  rw [getV_one] at this
  exact this
theorem flw_storeN (f : Flw) (W : World) (z : Array Value) (hz : z.size = 40) : (Instr.storeAt 55 (.pointer (some ⟨W.heap.size, 0, none⟩)) (.agg f.enc.toArray)).run Tryz.prog (W.alloc (.cells z 55)) = .ok () (W.alloc (.cells f.enc.toArray 55)) :=
  run_storeAt_new (v := .agg f.enc.toArray) (by simp only [Value.cells, List.size_toArray, Flw.enc_length]; kernel_rfl) (by simp only [Value.cells, List.size_toArray, Flw.enc_length]; exact hz) (by simpa [Value.cells] using f.enc_one)
theorem flw_cells {f : Flw} {bf : Nat} (h : w.heap[bf]? = some (.cells f.enc.toArray 55)) : w.cell? ⟨bf, 37, none⟩ = some (.int .i64 f.st) ∧ w.cell? ⟨bf, 38, none⟩ = some (.int .i64 f.fin) ∧ w.cell? ⟨bf, 39, none⟩ = some (.int .u64 f.due) :=
  ⟨cell_heap h (by rw [List.getElem?_toArray]; exact f.at37 0), cell_heap h (by rw [List.getElem?_toArray]; exact f.at37 1), cell_heap h (by rw [List.getElem?_toArray]; exact f.at37 2)⟩
theorem tupw_load {q : Tup} {bw : Nat} (h : w.heap[bw]? = some (.cells q.enc.toArray 37)) : (Instr.loadAt 37 (.pointer (some ⟨bw, 0, none⟩))).run Tryz.prog w = .ok (.agg q.enc.toArray) w :=
  run_loadAt_row h Tryz.underlying37 rfl (by rw [Tup.enc_length]; kernel_rfl) (fun j u hu => by simpa using hu)
set_option maxRecDepth 8000 in
set_option maxHeartbeats 8000000 in
theorem awake26_any (w : World) (hE : Et w) : Calls Tryz.prog 5 #[] w fun e w' => e = .returned (.bool true) ∧ Below w.heap.size w w' := by
  have c1 := flNew_any 3 (Sat.start w)
  rw [show roomOf 3 = 3 by decide] at c1
  have hw0 := fun W : World => way_any 0 W
  simp only [way0] at hw0
  have HW := Lib.hid hw0
  clear hw0
  go_enter Tryz.func5, Tryz.ntmps5
  go_wp2_with fail
  refine c1.mono ?_
  rintro e w1 ⟨t, rfl, hS1⟩
  clear c1
  have c2 := begins_any 17 0 w1
  rw [show beginsF 17 0 = true by decide] at c2
  go_wp2_with fail
  refine c2.mono ?_
  rintro e wx ⟨rfl, rfl⟩
  go_wp2_with fail
  refine (HW.out _).mono ?_
  rintro e w2 ⟨rfl, hb2⟩
  have c3 := beg1 (q := tupP 6 0) (flags := 2) (now := 5) (hS1.below_ hb2) hE.pos hE (by omega) (by omega) (by decide)
  rw [show begP (tupP 6 0) = ⟨1, 0⟩ by decide, show begU (tupP 6 0) 5 = 35 by decide] at c3
  obtain ⟨q0, hq0⟩ : ∃ q0, q0 = tupP 6 0 := ⟨_, rfl⟩
  rw [← hq0] at c3 ⊢
  rw [← hq0] at HW
  clear hS1 hb2 c2
  generalize hQ : q0.enc.toArray = QE at *
  go_wp2_with fail
  refine c3.mono ?_
  rintro e w3 ⟨p, rfl, hS3⟩
  clear c3
  go_wp2_with fail
  refine (HW.out _).mono ?_
  rintro e w4 ⟨rfl, hb4⟩
  have c4 := get1 (hS3.below_ hb4)
  rw [hQ] at c4
  clear hS3 hb4
  go_wp2_with fail
  refine c4.mono ?_
  rintro e w5 ⟨rfl, hS5⟩
  have hst := flw_storeN ⟨q0, 1, 0, 35⟩
  have hX := hS5.alloc (.cells (Flw.enc ⟨q0, 1, 0, 35⟩).toArray 55)
  obtain ⟨f1, f2, f3⟩ := flw_cells (f := ⟨q0, 1, 0, 35⟩) hX.heap
  simp only at f1 f2 f3
  clear c4 hS5
  generalize (Flw.enc ⟨q0, 1, 0, 35⟩).toArray = FE at *
  go_wp2_with (refine wpList_store_run (t := 55) rfl rfl rfl rfl (hst _ _ rfl) (stop_ ?_))
  unfold Stop
  go_wp2_with fail
  refine (HW.out _).mono ?_
  rintro e w6 ⟨rfl, hb6⟩
  have hp : q0.proto = 6 := by rw [hq0]; rfl
  have c5 := see1_yes (side := 1) (flags := 18) (now := 6) (ph' := ⟨2, 0⟩) (u' := 36) (hX.below_ hb6).pull2 (by omega) (by omega) (by rw [hp]; decide) (by rw [hp]; decide)
  rw [hQ] at c5
  clear hX hb6 hst f1 f2 f3
  go_wp2_with fail
  refine c5.mono ?_
  rintro e w7 ⟨rfl, hS7⟩
  have c6 := flLen_any hS7
  rw [show ((oneR p q0 ⟨2, 0⟩ 36).length : Int) = 1 from rfl] at c6
  clear c5
  go_wp2_with fail
  refine c6.mono ?_
  rintro e wy ⟨rfl, rfl⟩
  go_wp2_with fail
  go_ret
  exact ⟨rfl, hS7.below⟩
end
end Go.Proofs.YtepaanpdjadakaaGreatDoor
