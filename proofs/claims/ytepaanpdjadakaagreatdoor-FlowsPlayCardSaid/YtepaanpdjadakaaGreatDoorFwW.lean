import Derived.Test.YtepaanpdjadakaaGreatDoorFwP
import Derived.Test.YtepaanpdjadakaaGreatDoorOpenF
/-! FlowsPlay's walk. -/
namespace Go.Proofs.YtepaanpdjadakaaGreatDoor
open Go Go.RowKit

section
variable {B : Nat} {w0 w w' : World} {F : HP} {b t room : Nat} {n next : Int} {R : List FIt}
theorem gSee_R (h : Sat B w0 w (gref b n (flws R) • F)) (hl : R.length ≤ 1000) (hn : KNW R) (hg : Good R next) (ho : OkL (flws R)) (q : Tup) (side flags now : Int) (hn0 : 0 ≤ now) (hn1 : now ≤ 18446744073709551615) : Calls Tryz.prog 11 #[.pointer (some ⟨b, 0, none⟩), .agg q.enc.toArray, .int .i64 side, .int .i64 flags, .int .u64 now] w fun e w' =>
    e = .returned (.bool (seeR R q side flags now).1) ∧ Sat B w0 w' (gref b n (flws (seeR R q side flags now).2) • F) := by
  have := gSee_any h (by rw [flws_length]; exact hl) (KN_flws hn) ho q side flags now hn0 hn1
  rw [see_flws hn hg] at this
  exact this
theorem gBegin_R (h : Sat B w0 w (gref b n (flws R) • F)) (hl : R.length ≤ 1000) (p : Nat) (q : Tup) (flags now : Int) (hn0 : 0 ≤ now) (hn1 : now ≤ 18446744073709551615) : Calls Tryz.prog 19 #[.pointer (some ⟨b, 0, none⟩), .agg q.enc.toArray, .int .i64 flags, .int .u64 now] w fun e w' =>
    e = .returned (failV (begC (roomOf n) R q flags)) ∧ Sat B w0 w' (gref b n (flws (begR (roomOf n) R next p q flags now)) • F) := by
  have := gBegin_any h (by rw [flws_length]; exact hl) q flags now hn0 hn1
  rw [begC_flws, beg_flws (next := next) _ _ p] at this
  exact this
theorem gRemove_R (h : Sat B w0 w (gref b n (flws R) • F)) (hl : R.length ≤ 1000) (hn : KNW R) (q : Tup) : Calls Tryz.prog 16 #[.pointer (some ⟨b, 0, none⟩), .agg q.enc.toArray] w fun e w' => e = .returned (.bool (R.any (isW q))) ∧ Sat B w0 w' (gref b n (flws (R.filter fun y => !isW q y)) • F) := by
  have := gRemove_any h (by rw [flws_length]; exact hl) (KN_flws hn) q
  rw [some_flws, del_flws] at this
  exact this
theorem gExpire_R (h : Sat B w0 w (gref b n (flws R) • F)) (hl : R.length ≤ 1000) (hn : KNW R) (now : Int) : Calls Tryz.prog 14 #[.pointer (some ⟨b, 0, none⟩), .int .u64 now] w fun e w' =>
    ∃ v, e = .returned v ∧ Sat B w0 w' (arr 37 37 v (dueF now R).length ((tupsF (dueF now R)).flatMap Tup.enc) • gref b n (flws (R.filter fun x => decide (now < x.due))) • F) := by
  refine (gExpire_any h (by rw [flws_length]; exact hl) (KN_flws hn) now).mono ?_
  rintro e w' ⟨v, rfl, h2⟩
  rw [← flws_due, ← flws_late, flws_length] at h2
  refine ⟨v, rfl, ?_⟩
  have e : (flws (dueF now R)).map (fun f => f.tup) = tupsF (dueF now R) := by
    unfold flws tupsF
    rw [List.map_map]
    rfl
  rw [e] at h2
  exact h2
theorem gGet_R (h : Sat B w0 w (gref b n (flws R) • F)) (hl : R.length ≤ 1000) (q : Tup) : Calls Tryz.prog 21 #[.pointer (some ⟨b, 0, none⟩), .agg q.enc.toArray] w fun e w' => e = .returned (getV R q) ∧ Sat B w0 w' (gref b n (flws R) • F) := by
  have := gGet_any h (by rw [flws_length]; exact hl) q
  rw [get_flws] at this
  exact this
theorem Sat.fl_good (h : Sat B w0 w (fltab t room R next • F)) : Good R next ∧ R.length ≤ 1000 := by
  obtain ⟨_, _, _, hg, h1, h2, _⟩ := h.fl_open
  exact ⟨hg, by omega⟩
theorem getV_form (R : List FIt) (q : Tup) : ∃ (f : Flw) (th : Bool), getV R q = .tuple #[.agg f.enc.toArray, .bool th] := by
  unfold getV
  cases R.find? (isW q) with
  | none => exact ⟨_, _, rfl⟩
  | some x => exact ⟨_, _, rfl⟩
end
attribute [local irreducible] wpOrd
set_option maxRecDepth 8000 in
set_option maxHeartbeats 64000000 in
theorem fwplay_any (n : Int) (v0 : Value) (ops : List WOp) (w : World) (r0 : RowsAt WOp.enc w v0 ops) (hgap : ∀ x ∈ ops, gapOk x) (hE : Et w) :
    Calls Tryz.prog 3 #[.int .i64 n, v0] w fun e w' => e = .returned (.bool true) ∧ Below w.heap.size w w' := by
  obtain ⟨A0, cp0, rfl⟩ := r0.form
  have hol := r0.2
  unfold maxLen at hol
  have c1 := flNew_any n (Sat.start w)
  have HGAP := Lib.hid hgap
  clear hgap
  go_enter Tryz.func3, Tryz.ntmps3
  go_wp2_with fail
  refine c1.mono ?_
  rintro e w1 ⟨t, rfl, hS1⟩
  have hS2 : Sat w.heap.size w _ (gref w1.heap.size n (flws []) • fltab t (roomOf n) [] 0 • emp) := Sat.gref_shut (L := flws []) (v := .slice none 0 0) ((arr_nil (e := 55) (sz := 40) (hS1.alloc (.cells #[.int .i64 n, .slice none 0 0] 28))).to (by ac_rfl))
  generalize hb : w1.heap.size = b at *
  clear c1 hS1
  go_wp2_with fail
  refine (awake26_any _ (hS2.et hE.pos hE)).mono ?_
  rintro e w3 ⟨rfl, hb3⟩
  have hS3 := hS2.below_ hb3
  clear hS2 hb3 hb
  go_wp2_with fail
  go_loopw [7, 8] (fun nn i wr => ∃ (k : Nat) (R : List FIt) (next now : Int), k ≤ ops.length ∧ k ≤ 120 ∧ (0 ≤ now ∧ now ≤ 18446744073709551615) ∧ nn = .int .u64 now ∧ i = .int .i64 k ∧ Sat w.heap.size w wr (gref b n (flws R) • fltab t (roomOf n) R next • emp) ∧ Hid (FI R k next)) (fun _ i _ => ops.length - (intOf i).toNat)
  case atStart => exact ⟨0, [], 0, 0, Nat.zero_le _, by omega, ⟨by omega, by omega⟩, rfl, rfl, hS3, Lib.hid FI.nil⟩
  case round =>
    clear hS3
    obtain ⟨k, R, next, now, hk, hk120, hnb, rfl, rfl, hS, HI⟩ := hrel
    by_cases hlt : k < ops.length ∧ k < 120
    · obtain ⟨hl1, hl2⟩ := hlt
      have hl1z : (k : Int) < ops.length := by omega
      have hl2z : (k : Int) < 120 := by omega
      obtain ⟨o, ho⟩ : ∃ o, ops[k]? = some o := ⟨_, List.getElem?_eq_getElem hl1⟩
      obtain ⟨a, ca, hva⟩ := r0.some_addr ho
      cases hva
      have hld := (r0.below hS.below).agg_at Tryz.underlying32 rfl (by kernel_rfl) WOp.enc_length ho rfl
      have hst : ∀ (W : World) (z : Array Value), z.size = 5 → (Instr.storeAt 32 (.pointer (some ⟨W.heap.size, 0, none⟩)) (.agg o.enc.toArray)).run Tryz.prog (W.alloc (.cells z 32)) = .ok () (W.alloc (.cells o.enc.toArray 32)) :=
        fun W z hz => run_storeAt_new (v := .agg o.enc.toArray) (by simp only [Value.cells, List.size_toArray, WOp.enc_length]; kernel_rfl) (by simp only [Value.cells, List.size_toArray, WOp.enc_length]; exact hz) (by intro u hu; simp [Value.cells, WOp.enc] at hu; rcases hu with rfl | rfl | rfl | rfl | rfl <;> rfl)
      have hof : ∀ (bo : Nat) (W : World), W.heap[bo]? = some (.cells o.enc.toArray 32) → W.cell? ⟨bo, 0, none⟩ = some (.int .i64 o.kind) ∧ W.cell? ⟨bo, 1, none⟩ = some (.int .i64 o.way) ∧ W.cell? ⟨bo, 2, none⟩ = some (.int .i64 o.side) ∧ W.cell? ⟨bo, 3, none⟩ = some (.int .i64 o.flags) ∧ W.cell? ⟨bo, 4, none⟩ = some (.int .u64 o.gap) := by
        intro bo W hW
        exact ⟨cell_heap hW rfl, cell_heap hW rfl, cell_heap hW rfl, cell_heap hW rfl, cell_heap hW rfl⟩
      have HOF := Lib.hid (hof wr.heap.size)
      have hgp := HGAP.out o (List.mem_of_getElem? ho)
      unfold gapOk at hgp
      obtain ⟨hgp0, hgp1⟩ := hgp
      have hS4 := (hS.alloc (.cells o.enc.toArray 32)).to (by ac_rfl : _ = blk wr.heap.size (.cells o.enc.toArray 32) • fltab t (roomOf n) R next • gref b n (flws R) • emp)
      clear ho hS hof
      generalize hOE : o.enc.toArray = OE at *
      clear hOE
      obtain ⟨kd, wy, sd, fl, gp⟩ := o
      simp only at HOF hgp0 hgp1
      have d1 := (HOF.out _ hS4.heap).2.1
      generalize hob : wr.heap.size = bo at *
      generalize hW : wr.alloc (.cells OE 32) = W at *
      have HOB := Lib.hid hob
      have HW := Lib.hid hW
      clear hob hW
      go_wp2_with (refine wpList_load_run (t := 32) rfl rfl rfl hld (stop_ ?_))
      unfold Stop
      go_wp2_with (refine wpList_store_run (t := 32) rfl rfl rfl rfl (hst _ _ rfl) (stop_ ?_))
      unfold Stop
      rw [HW.out, HOB.out]
      go_wp2_with fail
      refine (way_any wy _).mono ?_
      rintro e w5 ⟨rfl, hb5⟩
      have hS5 := hS4.below_ hb5
      clear hld hst HW HOB d1 hS4 hb5
      have HWT : Hid (FI (begR (roomOf n) R next 0 (wayT wy) fl now) (k + 1) (begN (roomOf n) R next (wayT wy) fl)) := Lib.hid (HI.out.begin _ _ _ _ _)
      have HBG := Lib.hid (fun (p : Nat) (now : Int) => HI.out.begin (roomOf n) p wy fl now)
      clear HWT
      obtain ⟨q, hq⟩ : ∃ q, q = wayT wy := ⟨_, rfl⟩
      rw [← hq] at HBG ⊢
      clear hq
      have hst := tup_store q
      have hX6 := hS5.alloc (.cells q.enc.toArray 37)
      have hqf : ∀ (bw : Nat) (W : World), W.heap[bw]? = some (.cells q.enc.toArray 37) → W.cell? ⟨bw, 34, none⟩ = some (.int .i64 q.proto) ∧ (Instr.loadAt 37 (.pointer (some ⟨bw, 0, none⟩))).run Tryz.prog W = .ok (.agg q.enc.toArray) W := fun bw W hW => ⟨cell_heap hW (by rw [List.getElem?_toArray]; exact q.at34 0), tupw_load hW⟩
      have HQF := Lib.hid (hqf w5.heap.size)
      obtain ⟨QE, hQE⟩ : ∃ QE, QE = q.enc.toArray := ⟨_, rfl⟩
      rw [← hQE] at hst hX6 HQF ⊢
      have HQE := Lib.hid hQE
      generalize hbw : w5.heap.size = bw at *
      generalize hW6 : w5.alloc (.cells QE 37) = w6 at *
      have HBW := Lib.hid hbw
      have HW6 := Lib.hid hW6
      clear hQE hqf hbw hW6 hS5
      go_wp2_with (refine wpList_store_run (t := 37) rfl rfl rfl rfl (hst _ _ rfl) (stop_ ?_))
      unfold Stop
      rw [HW6.out, HBW.out]
      clear hst HW6 HBW
      have d4 := (HOF.out _ hX6.pull2.heap).2.2.2.2
      go_wp2_with fail
      refine (gAfter_any now gp _ hnb.1 hnb.2 hgp0 hgp1).mono ?_
      rintro e wx ⟨rfl, rfl⟩
      obtain ⟨nw, hnw⟩ : ∃ nw, nw = aft now gp := ⟨_, rfl⟩
      have hab := aft_bd hnb.1 hnb.2 hgp0 (n := gp)
      rw [← hnw] at hab ⊢
      obtain ⟨hw0, hw1, _⟩ := hab
      clear hnw d4
      go_wp2_with fail
      try go_frame
      have hS7 := hX6.drew
      clear hX6
      refine wp_region_ord [(0, .pure), (1, .quiet), (2, .pure), (3, .quiet), (5, .pure), (6, .quiet), (7, .pure), (8, .quiet), (4, .acts), (9, .acts), (10, .pure), (11, .pure)] (by kernel_rfl) (by kernel_rfl)
        (fun w' => w'.heap[bw]? = some (.cells QE 37) ∧ w'.heap[bo]? = some (.cells OE 32)) ⟨hS7.heap, hS7.pull2.heap⟩ ?_
      iterate 1 (refine ord_pure rfl rfl rfl (fun K' hK => ?_); go_big_quiet_op; refine hK _ ?_; clear hK K')
      refine ord_load (t := 3) rfl rfl rfl (p := .pointer (some ⟨bw, 34, none⟩)) (v := .int .i64 q.proto) rfl (fun w' hC => load_one Tryz.underlying3 rfl (HQF.out _ hC.1).1) (fun K' hK => ?_)
      go_simp
      refine hK _ ?_
      clear hK K'
      iterate 1 (refine ord_pure rfl rfl rfl (fun K' hK => ?_); go_big_quiet_op; refine hK _ ?_; clear hK K')
      refine ord_load (t := 3) rfl rfl rfl (p := .pointer (some ⟨bo, 3, none⟩)) (v := .int .i64 fl) rfl (fun w' hC => load_one Tryz.underlying3 rfl (HOF.out _ hC.2).2.2.2.1) (fun K' hK => ?_)
      go_simp
      refine hK _ ?_
      clear hK K'
      iterate 1 (refine ord_pure rfl rfl rfl (fun K' hK => ?_); go_big_quiet_op; refine hK _ ?_; clear hK K')
      refine ord_load (t := 3) rfl rfl rfl (p := .pointer (some ⟨bw, 34, none⟩)) (v := .int .i64 q.proto) rfl (fun w' hC => load_one Tryz.underlying3 rfl (HQF.out _ hC.1).1) (fun K' hK => ?_)
      go_simp
      refine hK _ ?_
      clear hK K'
      iterate 1 (refine ord_pure rfl rfl rfl (fun K' hK => ?_); go_big_quiet_op; refine hK _ ?_; clear hK K')
      refine ord_load (t := 3) rfl rfl rfl (p := .pointer (some ⟨bo, 3, none⟩)) (v := .int .i64 fl) rfl (fun w' hC => load_one Tryz.underlying3 rfl (HOF.out _ hC.2).2.2.2.1) (fun K' hK => ?_)
      go_simp
      refine hK _ ?_
      clear hK K'
      refine ord_acts rfl rfl (fun K' hK => ?_)
      go_simp
      refine (begins_any q.proto fl _).mono ?_
      rintro e wx ⟨rfl, rfl⟩
      refine hK _ _ (⟨hS7.heap, hS7.pull2.heap⟩) ?_
      clear hK K'
      go_simp
      refine ord_acts rfl rfl (fun K' hK => ?_)
      go_simp
      refine (gBegins_any q.proto fl _).mono ?_
      rintro e wx ⟨rfl, rfl⟩
      have hbb : (beginsF q.proto fl == beginsF q.proto fl) = true := beq_self_eq_true _
      refine hK _ _ (⟨hS7.heap, hS7.pull2.heap⟩) ?_
      clear hK K'
      go_simp
      iterate 2 (refine ord_pure rfl rfl rfl (fun K' hK => ?_); go_big_quiet_op; refine hK _ ?_; clear hK K')
      refine ord_nil ?_
      obtain ⟨hgood, hRl⟩ := hS7.pull3.fl_good
      have HG := Lib.hid hgood
      have d0 := (HOF.out _ hS7.pull2.heap).1
      clear hgood hbb
      generalize w6.drew = w8 at *
      by_cases h1 : kd = 1
      · have hb1 : (kd == 1) = true := by simpa using h1
        have hD := hS7.drew
        have c9 := flSee_any hD.pull3 HI.out.kn q sd fl nw hw0 hw1
        rw [← HQE.out] at c9
        have c17 := fun (W : World) (G : HP) (hW : Sat w.heap.size w W (gref b n (flws R) • G)) => gSee_R hW hRl HI.out.kn HG.out HI.out.ok q sd fl nw hw0 hw1
        rw [← HQE.out] at c17
        have C17 := Lib.hid c17
        have HI2 := Lib.hid (HI.out.see HG.out q sd fl nw)
        clear c17 hS7
        generalize (seeR R q sd fl nw).2 = R2 at *
        generalize (seeR R q sd fl nw).1 = sb at *
        have hss : (sb == sb) = true := beq_self_eq_true _
        go_wp2_with fail
        try go_frame
        refine wp_region_ord [(0, .pure), (1, .pure), (2, .pure), (3, .quiet), (4, .pure), (5, .quiet), (6, .pure), (7, .quiet), (8, .pure), (10, .pure), (11, .quiet), (12, .pure), (13, .quiet), (14, .pure), (15, .quiet), (16, .pure), (9, .acts), (17, .acts), (18, .pure), (19, .pure), (20, .pure)] (by kernel_rfl) (by kernel_rfl)
          (fun w' => w'.heap[bw]? = some (.cells QE 37) ∧ w'.heap[bo]? = some (.cells OE 32)) ⟨hD.heap, hD.pull2.heap⟩ ?_
        iterate 3 (refine ord_pure rfl rfl rfl (fun K' hK => ?_); go_big_quiet_op; refine hK _ ?_; clear hK K')
        refine ord_load (t := 37) rfl rfl rfl (p := .pointer (some ⟨bw, 0, none⟩)) (v := .agg QE) rfl (fun w' hC => (HQF.out _ hC.1).2) (fun K' hK => ?_)
        go_simp
        refine hK _ ?_
        clear hK K'
        iterate 1 (refine ord_pure rfl rfl rfl (fun K' hK => ?_); go_big_quiet_op; refine hK _ ?_; clear hK K')
        refine ord_load (t := 3) rfl rfl rfl (p := .pointer (some ⟨bo, 2, none⟩)) (v := .int .i64 sd) rfl (fun w' hC => load_one Tryz.underlying3 rfl (HOF.out _ hC.2).2.2.1) (fun K' hK => ?_)
        go_simp
        refine hK _ ?_
        clear hK K'
        iterate 1 (refine ord_pure rfl rfl rfl (fun K' hK => ?_); go_big_quiet_op; refine hK _ ?_; clear hK K')
        refine ord_load (t := 3) rfl rfl rfl (p := .pointer (some ⟨bo, 3, none⟩)) (v := .int .i64 fl) rfl (fun w' hC => load_one Tryz.underlying3 rfl (HOF.out _ hC.2).2.2.2.1) (fun K' hK => ?_)
        go_simp
        refine hK _ ?_
        clear hK K'
        iterate 2 (refine ord_pure rfl rfl rfl (fun K' hK => ?_); go_big_quiet_op; refine hK _ ?_; clear hK K')
        refine ord_load (t := 37) rfl rfl rfl (p := .pointer (some ⟨bw, 0, none⟩)) (v := .agg QE) rfl (fun w' hC => (HQF.out _ hC.1).2) (fun K' hK => ?_)
        go_simp
        refine hK _ ?_
        clear hK K'
        iterate 1 (refine ord_pure rfl rfl rfl (fun K' hK => ?_); go_big_quiet_op; refine hK _ ?_; clear hK K')
        refine ord_load (t := 3) rfl rfl rfl (p := .pointer (some ⟨bo, 2, none⟩)) (v := .int .i64 sd) rfl (fun w' hC => load_one Tryz.underlying3 rfl (HOF.out _ hC.2).2.2.1) (fun K' hK => ?_)
        go_simp
        refine hK _ ?_
        clear hK K'
        iterate 1 (refine ord_pure rfl rfl rfl (fun K' hK => ?_); go_big_quiet_op; refine hK _ ?_; clear hK K')
        refine ord_load (t := 3) rfl rfl rfl (p := .pointer (some ⟨bo, 3, none⟩)) (v := .int .i64 fl) rfl (fun w' hC => load_one Tryz.underlying3 rfl (HOF.out _ hC.2).2.2.2.1) (fun K' hK => ?_)
        go_simp
        refine hK _ ?_
        clear hK K'
        iterate 1 (refine ord_pure rfl rfl rfl (fun K' hK => ?_); go_big_quiet_op; refine hK _ ?_; clear hK K')
        refine ord_acts rfl rfl (fun K' hK => ?_)
        go_simp
        refine (c9).mono ?_
        rintro e wa ⟨rfl, hT⟩
        refine hK _ _ (⟨hT.pull2.heap, hT.pull3.heap⟩) ?_
        clear hK K'
        go_simp
        refine ord_acts rfl rfl (fun K' hK => ?_)
        go_simp
        refine (C17.out _ _ hT.pull4).mono ?_
        rintro e wb ⟨rfl, hU⟩
        refine hK _ _ (⟨hU.pull3.heap, hU.pull4.heap⟩) ?_
        clear hK K'
        go_simp
        iterate 3 (refine ord_pure rfl rfl rfl (fun K' hK => ?_); go_big_quiet_op; refine hK _ ?_; clear hK K')
        refine ord_nil ?_
        have hV := hU.to (by ac_rfl : _ = blk bw (.cells QE 37) • blk bo (.cells OE 32) • fltab t (roomOf n) R2 next • gref b n (flws R2) • emp)
        clear hU hT hD C17 c9
        obtain ⟨f, th, hgv⟩ := getV_form R2 q
        have hff : (th != th) = false := by cases th <;> rfl
        have hRl2 : R2.length ≤ 1000 := by have := HI2.out.small; omega
        have c21 := flGet_any hV.pull3 q
        rw [hgv, ← HQE.out] at c21
        have hl21 := (HQF.out _ hV.heap).2
        have c22 := fun (W : World) (G : HP) (hW : Sat w.heap.size w W (gref b n (flws R2) • G)) => gGet_R hW hRl2 q
        rw [hgv, ← HQE.out] at c22
        have C22 := Lib.hid c22
        clear c22 hgv
        go_wp2_with (refine wpList_load_run (t := 37) rfl rfl rfl hl21 (stop_ ?_))
        unfold Stop
        go_wp2_with fail
        refine c21.mono ?_
        rintro e wA ⟨rfl, hA⟩
        have hst := flw_storeN f
        have hXA := hA.alloc (.cells f.enc.toArray 55)
        have hlf : ∀ (bx : Nat) (W : World), W.heap[bx]? = some (.cells f.enc.toArray 55) → (Instr.loadAt 55 (.pointer (some ⟨bx, 0, none⟩))).run Tryz.prog W = .ok (.agg f.enc.toArray) W :=
          fun bx W h => run_loadAt_row h Tryz.underlying55 rfl (by rw [Flw.enc_length]; kernel_rfl) (fun j u hu => by simpa using hu)
        have HLF := Lib.hid hlf
        have HEQ := Lib.hid (fun w' : World => (flw_eq 9995 f f : EqV Tryz.prog w' 10000 55 _ _ (decide (f = f))))
        rw [decide_eq_true (rfl : f = f)] at HEQ
        generalize f.enc.toArray = FE at *
        generalize hbA : wA.heap.size = bA at *
        generalize hWA : wA.alloc (.cells FE 55) = WA at *
        have HBA := Lib.hid (And.intro hbA hWA)
        clear c21 hA hbA hWA hlf hl21 hV
        go_wp2_with (refine wpList_store_run (t := 55) rfl rfl rfl rfl (hst _ _ rfl) (stop_ ?_))
        unfold Stop
        rw [HBA.out.2, HBA.out.1]
        have hl22 := (HQF.out _ hXA.pull3.heap).2
        have c22 := C22.out _ _ (hXA.to (by ac_rfl : _ = gref b n (flws R2) • blk bA (.cells FE 55) • fltab t (roomOf n) R2 next • blk bw (.cells QE 37) • blk bo (.cells OE 32) • emp))
        clear HBA hXA
        go_wp2_with (refine wpList_load_run (t := 37) rfl rfl rfl hl22 (stop_ ?_))
        unfold Stop
        go_wp2_with fail
        refine c22.mono ?_
        rintro e wB ⟨rfl, hB⟩
        have hXB := hB.alloc (.cells FE 55)
        generalize hbB : wB.heap.size = bB at *
        generalize hWB : wB.alloc (.cells FE 55) = WB at *
        have HBB := Lib.hid (And.intro hbB hWB)
        clear c22 hB hbB hWB hl22
        go_wp2_with (refine wpList_store_run (t := 55) rfl rfl rfl rfl (hst _ _ rfl) (stop_ ?_))
        unfold Stop
        rw [HBB.out.2, HBB.out.1]
        obtain ⟨A, c, hZ0⟩ := (hXB.pull2).gref_open
        have hfl := flws_length R2
        rw [hfl] at hZ0
        have hZ1 := hZ0.to (by ac_rfl : _ = blk bA (.cells FE 55) • blk bB (.cells FE 55) • blk b (.cells #[.int .i64 n, .slice A R2.length c] 28) • arr 55 40 (.slice A R2.length c) R2.length ((flws R2).flatMap Flw.enc) • fltab t (roomOf n) R2 next • blk bw (.cells QE 37) • blk bo (.cells OE 32) • emp)
        have hZ := hZ1.drew
        clear hZ0 hZ1 hXB hst HBB
        have HFIN := Lib.hid (fun (W : World) (hW : Sat w.heap.size w W (blk bA (.cells FE 55) • blk bB (.cells FE 55) • blk b (.cells #[.int .i64 n, .slice A R2.length c] 28) • arr 55 40 (.slice A R2.length c) R2.length ((flws R2).flatMap Flw.enc) • fltab t (roomOf n) R2 next • blk bw (.cells QE 37) • blk bo (.cells OE 32) • emp)) => ((Sat.gref_shut (L := flws R2) (F := fltab t (roomOf n) R2 next • emp) (v := .slice A R2.length c) (by rw [hfl]; exact (hW.to (by ac_rfl : _ = blk bA (.cells FE 55) • blk bB (.cells FE 55) • blk bw (.cells QE 37) • blk bo (.cells OE 32) • blk b (.cells #[.int .i64 n, .slice A R2.length c] 28) • arr 55 40 (.slice A R2.length c) R2.length ((flws R2).flatMap Flw.enc) • fltab t (roomOf n) R2 next • emp)).drop.drop.drop.drop) : Sat w.heap.size w W (gref b n (flws R2) • fltab t (roomOf n) R2 next • emp))))
        have HLEN := Lib.hid (fun (W : World) (hW : Sat w.heap.size w W (blk bA (.cells FE 55) • blk bB (.cells FE 55) • blk b (.cells #[.int .i64 n, .slice A R2.length c] 28) • arr 55 40 (.slice A R2.length c) R2.length ((flws R2).flatMap Flw.enc) • fltab t (roomOf n) R2 next • blk bw (.cells QE 37) • blk bo (.cells OE 32) • emp)) => flLen_any (hW.to (by ac_rfl : _ = fltab t (roomOf n) R2 next • (blk bA (.cells FE 55) • blk bB (.cells FE 55) • blk b (.cells #[.int .i64 n, .slice A R2.length c] 28) • arr 55 40 (.slice A R2.length c) R2.length ((flws R2).flatMap Flw.enc) • blk bw (.cells QE 37) • blk bo (.cells OE 32) • emp))))
        have HALL := Lib.hid (fun (W : World) (hW : Sat w.heap.size w W (blk bA (.cells FE 55) • blk bB (.cells FE 55) • blk b (.cells #[.int .i64 n, .slice A R2.length c] 28) • arr 55 40 (.slice A R2.length c) R2.length ((flws R2).flatMap Flw.enc) • fltab t (roomOf n) R2 next • blk bw (.cells QE 37) • blk bo (.cells OE 32) • emp)) => flAll_any (hW.to (by ac_rfl : _ = fltab t (roomOf n) R2 next • (blk bA (.cells FE 55) • blk bB (.cells FE 55) • blk b (.cells #[.int .i64 n, .slice A R2.length c] 28) • arr 55 40 (.slice A R2.length c) R2.length ((flws R2).flatMap Flw.enc) • blk bw (.cells QE 37) • blk bo (.cells OE 32) • emp))))
        have HPL := Lib.hid (fun (W : World) (A3 : Option Addr) (c3 : Nat) (G : HP) (hW : Sat w.heap.size w W (arr 55 40 (.slice A3 R2.length c3) R2.length ((flws R2).flatMap Flw.enc) • arr 55 40 (.slice A R2.length c) R2.length ((flws R2).flatMap Flw.enc) • G)) => (show Calls Tryz.prog 23 #[.slice A3 R2.length c3, .slice A R2.length c] W fun e w' => e = .returned (.bool true) ∧ Below W.heap.size W w' by
          have hr1 : RowsAt Flw.enc W (.slice A3 R2.length c3) (flws R2) := ⟨by rw [hfl]; exact hW.arr_reads, by rw [hfl]; unfold maxLen; omega⟩
          have hr2 : RowsAt Flw.enc W (.slice A R2.length c) (flws R2) := ⟨by rw [hfl]; exact hW.pull2.arr_reads, by rw [hfl]; unfold maxLen; omega⟩
          have := plainW_any _ _ _ _ W hr1 hr2
          rw [sameOf_refl eqD_refl] at this
          exact this))
        clear hfl
        have hC : WB.drew.heap[bA]? = some (.cells FE 55) ∧ WB.drew.heap[bB]? = some (.cells FE 55) ∧ WB.drew.cell? ⟨b, 1, none⟩ = some (.slice A R2.length c) := ⟨hZ.heap, hZ.pull2.heap, cell_heap hZ.pull3.heap rfl⟩
        have hnn : (((R2.length : Nat) : Int) != ((R2.length : Nat) : Int)) = false := by simp
        go_wp2_with fail
        try go_frame
        refine wp_region_ord [(0, .pure), (1, .pure), (2, .pure), (3, .quiet), (4, .quiet), (5, .pure), (6, .pure), (7, .pure), (8, .pure), (9, .pure), (10, .pure), (11, .pure), (12, .pure), (13, .pure), (15, .pure), (16, .pure), (17, .pure), (18, .quiet), (19, .pure), (14, .acts), (20, .pure), (21, .pure), (22, .pure), (23, .pure), (25, .pure), (26, .pure), (27, .pure), (28, .quiet), (24, .acts), (29, .acts), (30, .pure), (31, .pure)] (by kernel_rfl) (by kernel_rfl)
          (fun w' => w'.heap[bA]? = some (.cells FE 55) ∧ w'.heap[bB]? = some (.cells FE 55) ∧ w'.cell? ⟨b, 1, none⟩ = some (.slice A R2.length c)) hC ?_
        iterate 3 (refine ord_pure rfl rfl rfl (fun K' hK => ?_); go_big_quiet_op; refine hK _ ?_; clear hK K')
        refine ord_load (t := 55) rfl rfl rfl (p := .pointer (some ⟨bA, 0, none⟩)) (v := .agg FE) rfl (fun w' hC => HLF.out _ _ hC.1) (fun K' hK => ?_)
        go_simp
        refine hK _ ?_
        clear hK K'
        refine ord_load (t := 55) rfl rfl rfl (p := .pointer (some ⟨bB, 0, none⟩)) (v := .agg FE) rfl (fun w' hC => HLF.out _ _ hC.2.1) (fun K' hK => ?_)
        go_simp
        refine hK _ ?_
        clear hK K'
        refine ord_neq_agg rfl rfl rfl rfl rfl (by kernel_rfl) (fun w' => HEQ.out w') (fun K' hK => ?_)
        go_simp
        refine hK _ ?_
        clear hK K'
        iterate 11 (refine ord_pure rfl rfl rfl (fun K' hK => ?_); go_big_quiet_op; refine hK _ ?_; clear hK K')
        refine ord_load (t := 26) rfl rfl rfl (p := .pointer (some ⟨b, 1, none⟩)) (v := .slice A R2.length c) rfl (fun w' hC => load_one Tryz.underlying26 rfl hC.2.2) (fun K' hK => ?_)
        go_simp
        refine hK _ ?_
        clear hK K'
        iterate 1 (refine ord_pure rfl rfl rfl (fun K' hK => ?_); go_big_quiet_op; refine hK _ ?_; clear hK K')
        refine ord_acts rfl rfl (fun K' hK => ?_)
        go_simp
        refine (HLEN.out _ hZ).mono ?_
        rintro e wy1 ⟨rfl, rfl⟩
        refine hK _ _ (hC) ?_
        clear hK K'
        go_simp
        iterate 7 (refine ord_pure rfl rfl rfl (fun K' hK => ?_); go_big_quiet_op; refine hK _ ?_; clear hK K')
        refine ord_load (t := 26) rfl rfl rfl (p := .pointer (some ⟨b, 1, none⟩)) (v := .slice A R2.length c) rfl (fun w' hC => load_one Tryz.underlying26 rfl hC.2.2) (fun K' hK => ?_)
        go_simp
        refine hK _ ?_
        clear hK K'
        refine ord_acts rfl rfl (fun K' hK => ?_)
        go_simp
        refine (HALL.out _ hZ).mono ?_
        rintro e wC ⟨v3, rfl, hP⟩
        obtain ⟨A3, c3, rfl⟩ := hP.arr_form
        refine hK _ _ (⟨hP.drop.pull2.heap, hP.drop.pull3.heap, cell_heap hP.drop.pull4.heap rfl⟩) ?_
        clear hK K'
        go_simp
        refine ord_acts rfl rfl (fun K' hK => ?_)
        go_simp
        refine (HPL.out _ A3 c3 _ (hP.to (by ac_rfl : _ = arr 55 40 (.slice A3 R2.length c3) R2.length ((flws R2).flatMap Flw.enc) • arr 55 40 (.slice A R2.length c) R2.length ((flws R2).flatMap Flw.enc) • (fltab t (roomOf n) R2 next • blk bA (.cells FE 55) • blk bB (.cells FE 55) • blk b (.cells #[.int .i64 n, .slice A R2.length c] 28) • blk bw (.cells QE 37) • blk bo (.cells OE 32) • emp)))).mono ?_
        rintro e wD ⟨rfl, hbD⟩
        have hQ := (hP.below_ hbD).drop.to (by ac_rfl : _ = blk bA (.cells FE 55) • blk bB (.cells FE 55) • blk b (.cells #[.int .i64 n, .slice A R2.length c] 28) • arr 55 40 (.slice A R2.length c) R2.length ((flws R2).flatMap Flw.enc) • fltab t (roomOf n) R2 next • blk bw (.cells QE 37) • blk bo (.cells OE 32) • emp)
        have HY := Lib.hid (HFIN.out _ hQ)
        refine hK _ _ (⟨hQ.heap, hQ.pull2.heap, cell_heap hQ.pull3.heap rfl⟩) ?_
        clear hK K'
        go_simp
        iterate 2 (refine ord_pure rfl rfl rfl (fun K' hK => ?_); go_big_quiet_op; refine hK _ ?_; clear hK K')
        refine ord_nil ?_
        go_wp2_with fail
        go_roundw
        case rel => exact ⟨k + 1, R2, next, nw, by omega, by omega, ⟨hw0, hw1⟩, rfl, by go_num, HY.out, HI2⟩
        case measure => simp [intOf]; omega
      · have hb1 : (kd == 1) = false := by simpa using h1
        by_cases h2 : kd = 2
        · have hb2 : (kd == 2) = true := by simpa using h2
          have hD := hS7.drew
          have c9 := flSee_any hD.pull3 HI.out.kn q sd fl nw hw0 hw1
          rw [← HQE.out] at c9
          have c17 := fun (W : World) (G : HP) (hW : Sat w.heap.size w W (gref b n (flws R) • G)) => gSee_R hW hRl HI.out.kn HG.out HI.out.ok q sd fl nw hw0 hw1
          rw [← HQE.out] at c17
          have C17 := Lib.hid c17
          have HI2 := Lib.hid (HI.out.see HG.out q sd fl nw)
          clear c17 hS7
          generalize (seeR R q sd fl nw).2 = R2 at *
          generalize (seeR R q sd fl nw).1 = sb at *
          have hss : (sb == sb) = true := beq_self_eq_true _
          go_wp2_with fail
          try go_frame
          refine wp_region_ord [(0, .pure), (1, .pure), (2, .pure), (3, .quiet), (4, .pure), (5, .quiet), (6, .pure), (7, .quiet), (8, .pure), (10, .pure), (11, .quiet), (12, .pure), (13, .quiet), (14, .pure), (15, .quiet), (16, .pure), (9, .acts), (17, .acts), (18, .pure), (19, .pure), (20, .pure)] (by kernel_rfl) (by kernel_rfl)
            (fun w' => w'.heap[bw]? = some (.cells QE 37) ∧ w'.heap[bo]? = some (.cells OE 32)) ⟨hD.heap, hD.pull2.heap⟩ ?_
          iterate 3 (refine ord_pure rfl rfl rfl (fun K' hK => ?_); go_big_quiet_op; refine hK _ ?_; clear hK K')
          refine ord_load (t := 37) rfl rfl rfl (p := .pointer (some ⟨bw, 0, none⟩)) (v := .agg QE) rfl (fun w' hC => (HQF.out _ hC.1).2) (fun K' hK => ?_)
          go_simp
          refine hK _ ?_
          clear hK K'
          iterate 1 (refine ord_pure rfl rfl rfl (fun K' hK => ?_); go_big_quiet_op; refine hK _ ?_; clear hK K')
          refine ord_load (t := 3) rfl rfl rfl (p := .pointer (some ⟨bo, 2, none⟩)) (v := .int .i64 sd) rfl (fun w' hC => load_one Tryz.underlying3 rfl (HOF.out _ hC.2).2.2.1) (fun K' hK => ?_)
          go_simp
          refine hK _ ?_
          clear hK K'
          iterate 1 (refine ord_pure rfl rfl rfl (fun K' hK => ?_); go_big_quiet_op; refine hK _ ?_; clear hK K')
          refine ord_load (t := 3) rfl rfl rfl (p := .pointer (some ⟨bo, 3, none⟩)) (v := .int .i64 fl) rfl (fun w' hC => load_one Tryz.underlying3 rfl (HOF.out _ hC.2).2.2.2.1) (fun K' hK => ?_)
          go_simp
          refine hK _ ?_
          clear hK K'
          iterate 2 (refine ord_pure rfl rfl rfl (fun K' hK => ?_); go_big_quiet_op; refine hK _ ?_; clear hK K')
          refine ord_load (t := 37) rfl rfl rfl (p := .pointer (some ⟨bw, 0, none⟩)) (v := .agg QE) rfl (fun w' hC => (HQF.out _ hC.1).2) (fun K' hK => ?_)
          go_simp
          refine hK _ ?_
          clear hK K'
          iterate 1 (refine ord_pure rfl rfl rfl (fun K' hK => ?_); go_big_quiet_op; refine hK _ ?_; clear hK K')
          refine ord_load (t := 3) rfl rfl rfl (p := .pointer (some ⟨bo, 2, none⟩)) (v := .int .i64 sd) rfl (fun w' hC => load_one Tryz.underlying3 rfl (HOF.out _ hC.2).2.2.1) (fun K' hK => ?_)
          go_simp
          refine hK _ ?_
          clear hK K'
          iterate 1 (refine ord_pure rfl rfl rfl (fun K' hK => ?_); go_big_quiet_op; refine hK _ ?_; clear hK K')
          refine ord_load (t := 3) rfl rfl rfl (p := .pointer (some ⟨bo, 3, none⟩)) (v := .int .i64 fl) rfl (fun w' hC => load_one Tryz.underlying3 rfl (HOF.out _ hC.2).2.2.2.1) (fun K' hK => ?_)
          go_simp
          refine hK _ ?_
          clear hK K'
          iterate 1 (refine ord_pure rfl rfl rfl (fun K' hK => ?_); go_big_quiet_op; refine hK _ ?_; clear hK K')
          refine ord_acts rfl rfl (fun K' hK => ?_)
          go_simp
          refine (c9).mono ?_
          rintro e wa ⟨rfl, hT⟩
          refine hK _ _ (⟨hT.pull2.heap, hT.pull3.heap⟩) ?_
          clear hK K'
          go_simp
          refine ord_acts rfl rfl (fun K' hK => ?_)
          go_simp
          refine (C17.out _ _ hT.pull4).mono ?_
          rintro e wb ⟨rfl, hU⟩
          refine hK _ _ (⟨hU.pull3.heap, hU.pull4.heap⟩) ?_
          clear hK K'
          go_simp
          iterate 3 (refine ord_pure rfl rfl rfl (fun K' hK => ?_); go_big_quiet_op; refine hK _ ?_; clear hK K')
          refine ord_nil ?_
          have hV := hU.to (by ac_rfl : _ = blk bw (.cells QE 37) • blk bo (.cells OE 32) • fltab t (roomOf n) R2 next • gref b n (flws R2) • emp)
          clear hU hT hD C17 c9
          obtain ⟨f, th, hgv⟩ := getV_form R2 q
          have hff : (th != th) = false := by cases th <;> rfl
          have hRl2 : R2.length ≤ 1000 := by have := HI2.out.small; omega
          have c21 := flGet_any hV.pull3 q
          rw [hgv, ← HQE.out] at c21
          have hl21 := (HQF.out _ hV.heap).2
          have c22 := fun (W : World) (G : HP) (hW : Sat w.heap.size w W (gref b n (flws R2) • G)) => gGet_R hW hRl2 q
          rw [hgv, ← HQE.out] at c22
          have C22 := Lib.hid c22
          clear c22 hgv
          go_wp2_with (refine wpList_load_run (t := 37) rfl rfl rfl hl21 (stop_ ?_))
          unfold Stop
          go_wp2_with fail
          refine c21.mono ?_
          rintro e wA ⟨rfl, hA⟩
          have hst := flw_storeN f
          have hXA := hA.alloc (.cells f.enc.toArray 55)
          have hlf : ∀ (bx : Nat) (W : World), W.heap[bx]? = some (.cells f.enc.toArray 55) → (Instr.loadAt 55 (.pointer (some ⟨bx, 0, none⟩))).run Tryz.prog W = .ok (.agg f.enc.toArray) W :=
            fun bx W h => run_loadAt_row h Tryz.underlying55 rfl (by rw [Flw.enc_length]; kernel_rfl) (fun j u hu => by simpa using hu)
          have HLF := Lib.hid hlf
          have HEQ := Lib.hid (fun w' : World => (flw_eq 9995 f f : EqV Tryz.prog w' 10000 55 _ _ (decide (f = f))))
          rw [decide_eq_true (rfl : f = f)] at HEQ
          generalize f.enc.toArray = FE at *
          generalize hbA : wA.heap.size = bA at *
          generalize hWA : wA.alloc (.cells FE 55) = WA at *
          have HBA := Lib.hid (And.intro hbA hWA)
          clear c21 hA hbA hWA hlf hl21 hV
          go_wp2_with (refine wpList_store_run (t := 55) rfl rfl rfl rfl (hst _ _ rfl) (stop_ ?_))
          unfold Stop
          rw [HBA.out.2, HBA.out.1]
          have hl22 := (HQF.out _ hXA.pull3.heap).2
          have c22 := C22.out _ _ (hXA.to (by ac_rfl : _ = gref b n (flws R2) • blk bA (.cells FE 55) • fltab t (roomOf n) R2 next • blk bw (.cells QE 37) • blk bo (.cells OE 32) • emp))
          clear HBA hXA
          go_wp2_with (refine wpList_load_run (t := 37) rfl rfl rfl hl22 (stop_ ?_))
          unfold Stop
          go_wp2_with fail
          refine c22.mono ?_
          rintro e wB ⟨rfl, hB⟩
          have hXB := hB.alloc (.cells FE 55)
          generalize hbB : wB.heap.size = bB at *
          generalize hWB : wB.alloc (.cells FE 55) = WB at *
          have HBB := Lib.hid (And.intro hbB hWB)
          clear c22 hB hbB hWB hl22
          go_wp2_with (refine wpList_store_run (t := 55) rfl rfl rfl rfl (hst _ _ rfl) (stop_ ?_))
          unfold Stop
          rw [HBB.out.2, HBB.out.1]
          obtain ⟨A, c, hZ0⟩ := (hXB.pull2).gref_open
          have hfl := flws_length R2
          rw [hfl] at hZ0
          have hZ1 := hZ0.to (by ac_rfl : _ = blk bA (.cells FE 55) • blk bB (.cells FE 55) • blk b (.cells #[.int .i64 n, .slice A R2.length c] 28) • arr 55 40 (.slice A R2.length c) R2.length ((flws R2).flatMap Flw.enc) • fltab t (roomOf n) R2 next • blk bw (.cells QE 37) • blk bo (.cells OE 32) • emp)
          have hZ := hZ1.drew
          clear hZ0 hZ1 hXB hst HBB
          have HFIN := Lib.hid (fun (W : World) (hW : Sat w.heap.size w W (blk bA (.cells FE 55) • blk bB (.cells FE 55) • blk b (.cells #[.int .i64 n, .slice A R2.length c] 28) • arr 55 40 (.slice A R2.length c) R2.length ((flws R2).flatMap Flw.enc) • fltab t (roomOf n) R2 next • blk bw (.cells QE 37) • blk bo (.cells OE 32) • emp)) => ((Sat.gref_shut (L := flws R2) (F := fltab t (roomOf n) R2 next • emp) (v := .slice A R2.length c) (by rw [hfl]; exact (hW.to (by ac_rfl : _ = blk bA (.cells FE 55) • blk bB (.cells FE 55) • blk bw (.cells QE 37) • blk bo (.cells OE 32) • blk b (.cells #[.int .i64 n, .slice A R2.length c] 28) • arr 55 40 (.slice A R2.length c) R2.length ((flws R2).flatMap Flw.enc) • fltab t (roomOf n) R2 next • emp)).drop.drop.drop.drop) : Sat w.heap.size w W (gref b n (flws R2) • fltab t (roomOf n) R2 next • emp))))
          have HLEN := Lib.hid (fun (W : World) (hW : Sat w.heap.size w W (blk bA (.cells FE 55) • blk bB (.cells FE 55) • blk b (.cells #[.int .i64 n, .slice A R2.length c] 28) • arr 55 40 (.slice A R2.length c) R2.length ((flws R2).flatMap Flw.enc) • fltab t (roomOf n) R2 next • blk bw (.cells QE 37) • blk bo (.cells OE 32) • emp)) => flLen_any (hW.to (by ac_rfl : _ = fltab t (roomOf n) R2 next • (blk bA (.cells FE 55) • blk bB (.cells FE 55) • blk b (.cells #[.int .i64 n, .slice A R2.length c] 28) • arr 55 40 (.slice A R2.length c) R2.length ((flws R2).flatMap Flw.enc) • blk bw (.cells QE 37) • blk bo (.cells OE 32) • emp))))
          have HALL := Lib.hid (fun (W : World) (hW : Sat w.heap.size w W (blk bA (.cells FE 55) • blk bB (.cells FE 55) • blk b (.cells #[.int .i64 n, .slice A R2.length c] 28) • arr 55 40 (.slice A R2.length c) R2.length ((flws R2).flatMap Flw.enc) • fltab t (roomOf n) R2 next • blk bw (.cells QE 37) • blk bo (.cells OE 32) • emp)) => flAll_any (hW.to (by ac_rfl : _ = fltab t (roomOf n) R2 next • (blk bA (.cells FE 55) • blk bB (.cells FE 55) • blk b (.cells #[.int .i64 n, .slice A R2.length c] 28) • arr 55 40 (.slice A R2.length c) R2.length ((flws R2).flatMap Flw.enc) • blk bw (.cells QE 37) • blk bo (.cells OE 32) • emp))))
          have HPL := Lib.hid (fun (W : World) (A3 : Option Addr) (c3 : Nat) (G : HP) (hW : Sat w.heap.size w W (arr 55 40 (.slice A3 R2.length c3) R2.length ((flws R2).flatMap Flw.enc) • arr 55 40 (.slice A R2.length c) R2.length ((flws R2).flatMap Flw.enc) • G)) => (show Calls Tryz.prog 23 #[.slice A3 R2.length c3, .slice A R2.length c] W fun e w' => e = .returned (.bool true) ∧ Below W.heap.size W w' by
            have hr1 : RowsAt Flw.enc W (.slice A3 R2.length c3) (flws R2) := ⟨by rw [hfl]; exact hW.arr_reads, by rw [hfl]; unfold maxLen; omega⟩
            have hr2 : RowsAt Flw.enc W (.slice A R2.length c) (flws R2) := ⟨by rw [hfl]; exact hW.pull2.arr_reads, by rw [hfl]; unfold maxLen; omega⟩
            have := plainW_any _ _ _ _ W hr1 hr2
            rw [sameOf_refl eqD_refl] at this
            exact this))
          clear hfl
          have hC : WB.drew.heap[bA]? = some (.cells FE 55) ∧ WB.drew.heap[bB]? = some (.cells FE 55) ∧ WB.drew.cell? ⟨b, 1, none⟩ = some (.slice A R2.length c) := ⟨hZ.heap, hZ.pull2.heap, cell_heap hZ.pull3.heap rfl⟩
          have hnn : (((R2.length : Nat) : Int) != ((R2.length : Nat) : Int)) = false := by simp
          go_wp2_with fail
          try go_frame
          refine wp_region_ord [(0, .pure), (1, .pure), (2, .pure), (3, .quiet), (4, .quiet), (5, .pure), (6, .pure), (7, .pure), (8, .pure), (9, .pure), (10, .pure), (11, .pure), (12, .pure), (13, .pure), (15, .pure), (16, .pure), (17, .pure), (18, .quiet), (19, .pure), (14, .acts), (20, .pure), (21, .pure), (22, .pure), (23, .pure), (25, .pure), (26, .pure), (27, .pure), (28, .quiet), (24, .acts), (29, .acts), (30, .pure), (31, .pure)] (by kernel_rfl) (by kernel_rfl)
            (fun w' => w'.heap[bA]? = some (.cells FE 55) ∧ w'.heap[bB]? = some (.cells FE 55) ∧ w'.cell? ⟨b, 1, none⟩ = some (.slice A R2.length c)) hC ?_
          iterate 3 (refine ord_pure rfl rfl rfl (fun K' hK => ?_); go_big_quiet_op; refine hK _ ?_; clear hK K')
          refine ord_load (t := 55) rfl rfl rfl (p := .pointer (some ⟨bA, 0, none⟩)) (v := .agg FE) rfl (fun w' hC => HLF.out _ _ hC.1) (fun K' hK => ?_)
          go_simp
          refine hK _ ?_
          clear hK K'
          refine ord_load (t := 55) rfl rfl rfl (p := .pointer (some ⟨bB, 0, none⟩)) (v := .agg FE) rfl (fun w' hC => HLF.out _ _ hC.2.1) (fun K' hK => ?_)
          go_simp
          refine hK _ ?_
          clear hK K'
          refine ord_neq_agg rfl rfl rfl rfl rfl (by kernel_rfl) (fun w' => HEQ.out w') (fun K' hK => ?_)
          go_simp
          refine hK _ ?_
          clear hK K'
          iterate 11 (refine ord_pure rfl rfl rfl (fun K' hK => ?_); go_big_quiet_op; refine hK _ ?_; clear hK K')
          refine ord_load (t := 26) rfl rfl rfl (p := .pointer (some ⟨b, 1, none⟩)) (v := .slice A R2.length c) rfl (fun w' hC => load_one Tryz.underlying26 rfl hC.2.2) (fun K' hK => ?_)
          go_simp
          refine hK _ ?_
          clear hK K'
          iterate 1 (refine ord_pure rfl rfl rfl (fun K' hK => ?_); go_big_quiet_op; refine hK _ ?_; clear hK K')
          refine ord_acts rfl rfl (fun K' hK => ?_)
          go_simp
          refine (HLEN.out _ hZ).mono ?_
          rintro e wy1 ⟨rfl, rfl⟩
          refine hK _ _ (hC) ?_
          clear hK K'
          go_simp
          iterate 7 (refine ord_pure rfl rfl rfl (fun K' hK => ?_); go_big_quiet_op; refine hK _ ?_; clear hK K')
          refine ord_load (t := 26) rfl rfl rfl (p := .pointer (some ⟨b, 1, none⟩)) (v := .slice A R2.length c) rfl (fun w' hC => load_one Tryz.underlying26 rfl hC.2.2) (fun K' hK => ?_)
          go_simp
          refine hK _ ?_
          clear hK K'
          refine ord_acts rfl rfl (fun K' hK => ?_)
          go_simp
          refine (HALL.out _ hZ).mono ?_
          rintro e wC ⟨v3, rfl, hP⟩
          obtain ⟨A3, c3, rfl⟩ := hP.arr_form
          refine hK _ _ (⟨hP.drop.pull2.heap, hP.drop.pull3.heap, cell_heap hP.drop.pull4.heap rfl⟩) ?_
          clear hK K'
          go_simp
          refine ord_acts rfl rfl (fun K' hK => ?_)
          go_simp
          refine (HPL.out _ A3 c3 _ (hP.to (by ac_rfl : _ = arr 55 40 (.slice A3 R2.length c3) R2.length ((flws R2).flatMap Flw.enc) • arr 55 40 (.slice A R2.length c) R2.length ((flws R2).flatMap Flw.enc) • (fltab t (roomOf n) R2 next • blk bA (.cells FE 55) • blk bB (.cells FE 55) • blk b (.cells #[.int .i64 n, .slice A R2.length c] 28) • blk bw (.cells QE 37) • blk bo (.cells OE 32) • emp)))).mono ?_
          rintro e wD ⟨rfl, hbD⟩
          have hQ := (hP.below_ hbD).drop.to (by ac_rfl : _ = blk bA (.cells FE 55) • blk bB (.cells FE 55) • blk b (.cells #[.int .i64 n, .slice A R2.length c] 28) • arr 55 40 (.slice A R2.length c) R2.length ((flws R2).flatMap Flw.enc) • fltab t (roomOf n) R2 next • blk bw (.cells QE 37) • blk bo (.cells OE 32) • emp)
          have HY := Lib.hid (HFIN.out _ hQ)
          refine hK _ _ (⟨hQ.heap, hQ.pull2.heap, cell_heap hQ.pull3.heap rfl⟩) ?_
          clear hK K'
          go_simp
          iterate 2 (refine ord_pure rfl rfl rfl (fun K' hK => ?_); go_big_quiet_op; refine hK _ ?_; clear hK K')
          refine ord_nil ?_
          go_wp2_with fail
          go_roundw
          case rel => exact ⟨k + 1, R2, next, nw, by omega, by omega, ⟨hw0, hw1⟩, rfl, by go_num, HY.out, HI2⟩
          case measure => simp [intOf]; omega
        · have hb2 : (kd == 2) = false := by simpa using h2
          by_cases h3 : kd = 3
          · have hb3 : (kd == 3) = true := by simpa using h3
            have c4 := flExpire_any hS7.pull3 HI.out.kn nw (HI.out.due nw)
            have C7 := Lib.hid (fun (W : World) (G : HP) (hW : Sat w.heap.size w W (gref b n (flws R) • G)) => gExpire_R hW hRl HI.out.kn nw)
            have HI2 := Lib.hid (HI.out.keep fun x => decide (nw < x.due))
            have hdl := HI.out.due nw
            have hln : (tupsF (dueF nw R)).length = (dueF nw R).length := by simp [tupsF]
            skip
            generalize (R.filter fun x => decide (nw < x.due)) = R2 at *
            generalize tupsF (dueF nw R) = DL at *
            generalize (dueF nw R).length = dn at *
            go_wp2_with fail
            refine c4.mono ?_
            rintro e wa ⟨v4, rfl, hT⟩
            obtain ⟨A4, c4', rfl⟩ := hT.arr_form
            have c7 := C7.out _ _ (hT.to (by ac_rfl : _ = gref b n (flws R) • arr 37 37 (.slice A4 dn c4') dn (DL.flatMap Tup.enc) • fltab t (roomOf n) R2 next • blk bw (.cells QE 37) • blk bo (.cells OE 32) • emp))
            clear hT c4 C7 hS7
            go_wp2_with fail
            refine c7.mono ?_
            rintro e wb ⟨v7, rfl, hU⟩
            obtain ⟨A7, c7', rfl⟩ := hU.arr_form
            have hr1 : RowsAt Tup.enc wb (.slice A4 dn c4') DL := ⟨by rw [hln]; exact hU.pull3.arr_reads, by rw [hln]; unfold maxLen; omega⟩
            have hr2 : RowsAt Tup.enc wb (.slice A7 dn c7') DL := ⟨by rw [hln]; exact hU.arr_reads, by rw [hln]; unfold maxLen; omega⟩
            have c8 := plainT_any _ _ _ _ wb hr1 hr2
            rw [sameOf_refl eqD_refl] at c8
            clear c7 hr1 hr2 hln hdl
            go_wp2_with fail
            refine c8.mono ?_
            rintro e wc ⟨rfl, hbc⟩
            have hV := ((hU.below_ hbc).to (by ac_rfl : _ = arr 37 37 (.slice A7 dn c7') dn (DL.flatMap Tup.enc) • arr 37 37 (.slice A4 dn c4') dn (DL.flatMap Tup.enc) • blk bw (.cells QE 37) • blk bo (.cells OE 32) • fltab t (roomOf n) R2 next • gref b n (flws R2) • emp)).drop.drop
            clear hU hbc c8
            obtain ⟨f, th, hgv⟩ := getV_form R2 q
            have hff : (th != th) = false := by cases th <;> rfl
            have hRl2 : R2.length ≤ 1000 := by have := HI2.out.small; omega
            have c21 := flGet_any hV.pull3 q
            rw [hgv, ← HQE.out] at c21
            have hl21 := (HQF.out _ hV.heap).2
            have c22 := fun (W : World) (G : HP) (hW : Sat w.heap.size w W (gref b n (flws R2) • G)) => gGet_R hW hRl2 q
            rw [hgv, ← HQE.out] at c22
            have C22 := Lib.hid c22
            clear c22 hgv
            go_wp2_with (refine wpList_load_run (t := 37) rfl rfl rfl hl21 (stop_ ?_))
            unfold Stop
            go_wp2_with fail
            refine c21.mono ?_
            rintro e wA ⟨rfl, hA⟩
            have hst := flw_storeN f
            have hXA := hA.alloc (.cells f.enc.toArray 55)
            have hlf : ∀ (bx : Nat) (W : World), W.heap[bx]? = some (.cells f.enc.toArray 55) → (Instr.loadAt 55 (.pointer (some ⟨bx, 0, none⟩))).run Tryz.prog W = .ok (.agg f.enc.toArray) W :=
              fun bx W h => run_loadAt_row h Tryz.underlying55 rfl (by rw [Flw.enc_length]; kernel_rfl) (fun j u hu => by simpa using hu)
            have HLF := Lib.hid hlf
            have HEQ := Lib.hid (fun w' : World => (flw_eq 9995 f f : EqV Tryz.prog w' 10000 55 _ _ (decide (f = f))))
            rw [decide_eq_true (rfl : f = f)] at HEQ
            generalize f.enc.toArray = FE at *
            generalize hbA : wA.heap.size = bA at *
            generalize hWA : wA.alloc (.cells FE 55) = WA at *
            have HBA := Lib.hid (And.intro hbA hWA)
            clear c21 hA hbA hWA hlf hl21 hV
            go_wp2_with (refine wpList_store_run (t := 55) rfl rfl rfl rfl (hst _ _ rfl) (stop_ ?_))
            unfold Stop
            rw [HBA.out.2, HBA.out.1]
            have hl22 := (HQF.out _ hXA.pull3.heap).2
            have c22 := C22.out _ _ (hXA.to (by ac_rfl : _ = gref b n (flws R2) • blk bA (.cells FE 55) • fltab t (roomOf n) R2 next • blk bw (.cells QE 37) • blk bo (.cells OE 32) • emp))
            clear HBA hXA
            go_wp2_with (refine wpList_load_run (t := 37) rfl rfl rfl hl22 (stop_ ?_))
            unfold Stop
            go_wp2_with fail
            refine c22.mono ?_
            rintro e wB ⟨rfl, hB⟩
            have hXB := hB.alloc (.cells FE 55)
            generalize hbB : wB.heap.size = bB at *
            generalize hWB : wB.alloc (.cells FE 55) = WB at *
            have HBB := Lib.hid (And.intro hbB hWB)
            clear c22 hB hbB hWB hl22
            go_wp2_with (refine wpList_store_run (t := 55) rfl rfl rfl rfl (hst _ _ rfl) (stop_ ?_))
            unfold Stop
            rw [HBB.out.2, HBB.out.1]
            obtain ⟨A, c, hZ0⟩ := (hXB.pull2).gref_open
            have hfl := flws_length R2
            rw [hfl] at hZ0
            have hZ1 := hZ0.to (by ac_rfl : _ = blk bA (.cells FE 55) • blk bB (.cells FE 55) • blk b (.cells #[.int .i64 n, .slice A R2.length c] 28) • arr 55 40 (.slice A R2.length c) R2.length ((flws R2).flatMap Flw.enc) • fltab t (roomOf n) R2 next • blk bw (.cells QE 37) • blk bo (.cells OE 32) • emp)
            have hZ := hZ1.drew
            clear hZ0 hZ1 hXB hst HBB
            have HFIN := Lib.hid (fun (W : World) (hW : Sat w.heap.size w W (blk bA (.cells FE 55) • blk bB (.cells FE 55) • blk b (.cells #[.int .i64 n, .slice A R2.length c] 28) • arr 55 40 (.slice A R2.length c) R2.length ((flws R2).flatMap Flw.enc) • fltab t (roomOf n) R2 next • blk bw (.cells QE 37) • blk bo (.cells OE 32) • emp)) => ((Sat.gref_shut (L := flws R2) (F := fltab t (roomOf n) R2 next • emp) (v := .slice A R2.length c) (by rw [hfl]; exact (hW.to (by ac_rfl : _ = blk bA (.cells FE 55) • blk bB (.cells FE 55) • blk bw (.cells QE 37) • blk bo (.cells OE 32) • blk b (.cells #[.int .i64 n, .slice A R2.length c] 28) • arr 55 40 (.slice A R2.length c) R2.length ((flws R2).flatMap Flw.enc) • fltab t (roomOf n) R2 next • emp)).drop.drop.drop.drop) : Sat w.heap.size w W (gref b n (flws R2) • fltab t (roomOf n) R2 next • emp))))
            have HLEN := Lib.hid (fun (W : World) (hW : Sat w.heap.size w W (blk bA (.cells FE 55) • blk bB (.cells FE 55) • blk b (.cells #[.int .i64 n, .slice A R2.length c] 28) • arr 55 40 (.slice A R2.length c) R2.length ((flws R2).flatMap Flw.enc) • fltab t (roomOf n) R2 next • blk bw (.cells QE 37) • blk bo (.cells OE 32) • emp)) => flLen_any (hW.to (by ac_rfl : _ = fltab t (roomOf n) R2 next • (blk bA (.cells FE 55) • blk bB (.cells FE 55) • blk b (.cells #[.int .i64 n, .slice A R2.length c] 28) • arr 55 40 (.slice A R2.length c) R2.length ((flws R2).flatMap Flw.enc) • blk bw (.cells QE 37) • blk bo (.cells OE 32) • emp))))
            have HALL := Lib.hid (fun (W : World) (hW : Sat w.heap.size w W (blk bA (.cells FE 55) • blk bB (.cells FE 55) • blk b (.cells #[.int .i64 n, .slice A R2.length c] 28) • arr 55 40 (.slice A R2.length c) R2.length ((flws R2).flatMap Flw.enc) • fltab t (roomOf n) R2 next • blk bw (.cells QE 37) • blk bo (.cells OE 32) • emp)) => flAll_any (hW.to (by ac_rfl : _ = fltab t (roomOf n) R2 next • (blk bA (.cells FE 55) • blk bB (.cells FE 55) • blk b (.cells #[.int .i64 n, .slice A R2.length c] 28) • arr 55 40 (.slice A R2.length c) R2.length ((flws R2).flatMap Flw.enc) • blk bw (.cells QE 37) • blk bo (.cells OE 32) • emp))))
            have HPL := Lib.hid (fun (W : World) (A3 : Option Addr) (c3 : Nat) (G : HP) (hW : Sat w.heap.size w W (arr 55 40 (.slice A3 R2.length c3) R2.length ((flws R2).flatMap Flw.enc) • arr 55 40 (.slice A R2.length c) R2.length ((flws R2).flatMap Flw.enc) • G)) => (show Calls Tryz.prog 23 #[.slice A3 R2.length c3, .slice A R2.length c] W fun e w' => e = .returned (.bool true) ∧ Below W.heap.size W w' by
              have hr1 : RowsAt Flw.enc W (.slice A3 R2.length c3) (flws R2) := ⟨by rw [hfl]; exact hW.arr_reads, by rw [hfl]; unfold maxLen; omega⟩
              have hr2 : RowsAt Flw.enc W (.slice A R2.length c) (flws R2) := ⟨by rw [hfl]; exact hW.pull2.arr_reads, by rw [hfl]; unfold maxLen; omega⟩
              have := plainW_any _ _ _ _ W hr1 hr2
              rw [sameOf_refl eqD_refl] at this
              exact this))
            clear hfl
            have hC : WB.drew.heap[bA]? = some (.cells FE 55) ∧ WB.drew.heap[bB]? = some (.cells FE 55) ∧ WB.drew.cell? ⟨b, 1, none⟩ = some (.slice A R2.length c) := ⟨hZ.heap, hZ.pull2.heap, cell_heap hZ.pull3.heap rfl⟩
            have hnn : (((R2.length : Nat) : Int) != ((R2.length : Nat) : Int)) = false := by simp
            go_wp2_with fail
            try go_frame
            refine wp_region_ord [(0, .pure), (1, .pure), (2, .pure), (3, .quiet), (4, .quiet), (5, .pure), (6, .pure), (7, .pure), (8, .pure), (9, .pure), (10, .pure), (11, .pure), (12, .pure), (13, .pure), (15, .pure), (16, .pure), (17, .pure), (18, .quiet), (19, .pure), (14, .acts), (20, .pure), (21, .pure), (22, .pure), (23, .pure), (25, .pure), (26, .pure), (27, .pure), (28, .quiet), (24, .acts), (29, .acts), (30, .pure), (31, .pure)] (by kernel_rfl) (by kernel_rfl)
              (fun w' => w'.heap[bA]? = some (.cells FE 55) ∧ w'.heap[bB]? = some (.cells FE 55) ∧ w'.cell? ⟨b, 1, none⟩ = some (.slice A R2.length c)) hC ?_
            iterate 3 (refine ord_pure rfl rfl rfl (fun K' hK => ?_); go_big_quiet_op; refine hK _ ?_; clear hK K')
            refine ord_load (t := 55) rfl rfl rfl (p := .pointer (some ⟨bA, 0, none⟩)) (v := .agg FE) rfl (fun w' hC => HLF.out _ _ hC.1) (fun K' hK => ?_)
            go_simp
            refine hK _ ?_
            clear hK K'
            refine ord_load (t := 55) rfl rfl rfl (p := .pointer (some ⟨bB, 0, none⟩)) (v := .agg FE) rfl (fun w' hC => HLF.out _ _ hC.2.1) (fun K' hK => ?_)
            go_simp
            refine hK _ ?_
            clear hK K'
            refine ord_neq_agg rfl rfl rfl rfl rfl (by kernel_rfl) (fun w' => HEQ.out w') (fun K' hK => ?_)
            go_simp
            refine hK _ ?_
            clear hK K'
            iterate 11 (refine ord_pure rfl rfl rfl (fun K' hK => ?_); go_big_quiet_op; refine hK _ ?_; clear hK K')
            refine ord_load (t := 26) rfl rfl rfl (p := .pointer (some ⟨b, 1, none⟩)) (v := .slice A R2.length c) rfl (fun w' hC => load_one Tryz.underlying26 rfl hC.2.2) (fun K' hK => ?_)
            go_simp
            refine hK _ ?_
            clear hK K'
            iterate 1 (refine ord_pure rfl rfl rfl (fun K' hK => ?_); go_big_quiet_op; refine hK _ ?_; clear hK K')
            refine ord_acts rfl rfl (fun K' hK => ?_)
            go_simp
            refine (HLEN.out _ hZ).mono ?_
            rintro e wy1 ⟨rfl, rfl⟩
            refine hK _ _ (hC) ?_
            clear hK K'
            go_simp
            iterate 7 (refine ord_pure rfl rfl rfl (fun K' hK => ?_); go_big_quiet_op; refine hK _ ?_; clear hK K')
            refine ord_load (t := 26) rfl rfl rfl (p := .pointer (some ⟨b, 1, none⟩)) (v := .slice A R2.length c) rfl (fun w' hC => load_one Tryz.underlying26 rfl hC.2.2) (fun K' hK => ?_)
            go_simp
            refine hK _ ?_
            clear hK K'
            refine ord_acts rfl rfl (fun K' hK => ?_)
            go_simp
            refine (HALL.out _ hZ).mono ?_
            rintro e wC ⟨v3, rfl, hP⟩
            obtain ⟨A3, c3, rfl⟩ := hP.arr_form
            refine hK _ _ (⟨hP.drop.pull2.heap, hP.drop.pull3.heap, cell_heap hP.drop.pull4.heap rfl⟩) ?_
            clear hK K'
            go_simp
            refine ord_acts rfl rfl (fun K' hK => ?_)
            go_simp
            refine (HPL.out _ A3 c3 _ (hP.to (by ac_rfl : _ = arr 55 40 (.slice A3 R2.length c3) R2.length ((flws R2).flatMap Flw.enc) • arr 55 40 (.slice A R2.length c) R2.length ((flws R2).flatMap Flw.enc) • (fltab t (roomOf n) R2 next • blk bA (.cells FE 55) • blk bB (.cells FE 55) • blk b (.cells #[.int .i64 n, .slice A R2.length c] 28) • blk bw (.cells QE 37) • blk bo (.cells OE 32) • emp)))).mono ?_
            rintro e wD ⟨rfl, hbD⟩
            have hQ := (hP.below_ hbD).drop.to (by ac_rfl : _ = blk bA (.cells FE 55) • blk bB (.cells FE 55) • blk b (.cells #[.int .i64 n, .slice A R2.length c] 28) • arr 55 40 (.slice A R2.length c) R2.length ((flws R2).flatMap Flw.enc) • fltab t (roomOf n) R2 next • blk bw (.cells QE 37) • blk bo (.cells OE 32) • emp)
            have HY := Lib.hid (HFIN.out _ hQ)
            refine hK _ _ (⟨hQ.heap, hQ.pull2.heap, cell_heap hQ.pull3.heap rfl⟩) ?_
            clear hK K'
            go_simp
            iterate 2 (refine ord_pure rfl rfl rfl (fun K' hK => ?_); go_big_quiet_op; refine hK _ ?_; clear hK K')
            refine ord_nil ?_
            go_wp2_with fail
            go_roundw
            case rel => exact ⟨k + 1, R2, next, nw, by omega, by omega, ⟨hw0, hw1⟩, rfl, by go_num, HY.out, HI2⟩
            case measure => simp [intOf]; omega
          · have hb3 : (kd == 3) = false := by simpa using h3
            by_cases h4 : kd = 4
            · have hb4 : (kd == 4) = true := by simpa using h4
              have hD := hS7.drew
              have c4 := flRemove_any hD.pull3 HI.out.kn q
              rw [← HQE.out] at c4
              have c7 := fun (W : World) (G : HP) (hW : Sat w.heap.size w W (gref b n (flws R) • G)) => gRemove_R hW hRl HI.out.kn q
              rw [← HQE.out] at c7
              have C7 := Lib.hid c7
              have HI2 := Lib.hid (HI.out.keep fun y => !isW q y)
              clear c7 hS7
              generalize (R.filter fun y => !isW q y) = R2 at *
              generalize R.any (isW q) = sb at *
              have hss : (sb == sb) = true := beq_self_eq_true _
              go_wp2_with fail
              try go_frame
              refine wp_region_ord [(0, .pure), (1, .pure), (2, .pure), (3, .quiet), (5, .pure), (6, .quiet), (4, .acts), (7, .acts), (8, .pure), (9, .pure), (10, .pure)] (by kernel_rfl) (by kernel_rfl)
                (fun w' => w'.heap[bw]? = some (.cells QE 37) ∧ w'.heap[bo]? = some (.cells OE 32)) ⟨hD.heap, hD.pull2.heap⟩ ?_
              iterate 3 (refine ord_pure rfl rfl rfl (fun K' hK => ?_); go_big_quiet_op; refine hK _ ?_; clear hK K')
              refine ord_load (t := 37) rfl rfl rfl (p := .pointer (some ⟨bw, 0, none⟩)) (v := .agg QE) rfl (fun w' hC => (HQF.out _ hC.1).2) (fun K' hK => ?_)
              go_simp
              refine hK _ ?_
              clear hK K'
              iterate 1 (refine ord_pure rfl rfl rfl (fun K' hK => ?_); go_big_quiet_op; refine hK _ ?_; clear hK K')
              refine ord_load (t := 37) rfl rfl rfl (p := .pointer (some ⟨bw, 0, none⟩)) (v := .agg QE) rfl (fun w' hC => (HQF.out _ hC.1).2) (fun K' hK => ?_)
              go_simp
              refine hK _ ?_
              clear hK K'
              refine ord_acts rfl rfl (fun K' hK => ?_)
              go_simp
              refine (c4).mono ?_
              rintro e wa ⟨rfl, hT⟩
              refine hK _ _ (⟨hT.pull2.heap, hT.pull3.heap⟩) ?_
              clear hK K'
              go_simp
              refine ord_acts rfl rfl (fun K' hK => ?_)
              go_simp
              refine (C7.out _ _ hT.pull4).mono ?_
              rintro e wb ⟨rfl, hU⟩
              refine hK _ _ (⟨hU.pull3.heap, hU.pull4.heap⟩) ?_
              clear hK K'
              go_simp
              iterate 3 (refine ord_pure rfl rfl rfl (fun K' hK => ?_); go_big_quiet_op; refine hK _ ?_; clear hK K')
              refine ord_nil ?_
              have hV := hU.to (by ac_rfl : _ = blk bw (.cells QE 37) • blk bo (.cells OE 32) • fltab t (roomOf n) R2 next • gref b n (flws R2) • emp)
              clear hU hT hD C7 c4
              obtain ⟨f, th, hgv⟩ := getV_form R2 q
              have hff : (th != th) = false := by cases th <;> rfl
              have hRl2 : R2.length ≤ 1000 := by have := HI2.out.small; omega
              have c21 := flGet_any hV.pull3 q
              rw [hgv, ← HQE.out] at c21
              have hl21 := (HQF.out _ hV.heap).2
              have c22 := fun (W : World) (G : HP) (hW : Sat w.heap.size w W (gref b n (flws R2) • G)) => gGet_R hW hRl2 q
              rw [hgv, ← HQE.out] at c22
              have C22 := Lib.hid c22
              clear c22 hgv
              go_wp2_with (refine wpList_load_run (t := 37) rfl rfl rfl hl21 (stop_ ?_))
              unfold Stop
              go_wp2_with fail
              refine c21.mono ?_
              rintro e wA ⟨rfl, hA⟩
              have hst := flw_storeN f
              have hXA := hA.alloc (.cells f.enc.toArray 55)
              have hlf : ∀ (bx : Nat) (W : World), W.heap[bx]? = some (.cells f.enc.toArray 55) → (Instr.loadAt 55 (.pointer (some ⟨bx, 0, none⟩))).run Tryz.prog W = .ok (.agg f.enc.toArray) W :=
                fun bx W h => run_loadAt_row h Tryz.underlying55 rfl (by rw [Flw.enc_length]; kernel_rfl) (fun j u hu => by simpa using hu)
              have HLF := Lib.hid hlf
              have HEQ := Lib.hid (fun w' : World => (flw_eq 9995 f f : EqV Tryz.prog w' 10000 55 _ _ (decide (f = f))))
              rw [decide_eq_true (rfl : f = f)] at HEQ
              generalize f.enc.toArray = FE at *
              generalize hbA : wA.heap.size = bA at *
              generalize hWA : wA.alloc (.cells FE 55) = WA at *
              have HBA := Lib.hid (And.intro hbA hWA)
              clear c21 hA hbA hWA hlf hl21 hV
              go_wp2_with (refine wpList_store_run (t := 55) rfl rfl rfl rfl (hst _ _ rfl) (stop_ ?_))
              unfold Stop
              rw [HBA.out.2, HBA.out.1]
              have hl22 := (HQF.out _ hXA.pull3.heap).2
              have c22 := C22.out _ _ (hXA.to (by ac_rfl : _ = gref b n (flws R2) • blk bA (.cells FE 55) • fltab t (roomOf n) R2 next • blk bw (.cells QE 37) • blk bo (.cells OE 32) • emp))
              clear HBA hXA
              go_wp2_with (refine wpList_load_run (t := 37) rfl rfl rfl hl22 (stop_ ?_))
              unfold Stop
              go_wp2_with fail
              refine c22.mono ?_
              rintro e wB ⟨rfl, hB⟩
              have hXB := hB.alloc (.cells FE 55)
              generalize hbB : wB.heap.size = bB at *
              generalize hWB : wB.alloc (.cells FE 55) = WB at *
              have HBB := Lib.hid (And.intro hbB hWB)
              clear c22 hB hbB hWB hl22
              go_wp2_with (refine wpList_store_run (t := 55) rfl rfl rfl rfl (hst _ _ rfl) (stop_ ?_))
              unfold Stop
              rw [HBB.out.2, HBB.out.1]
              obtain ⟨A, c, hZ0⟩ := (hXB.pull2).gref_open
              have hfl := flws_length R2
              rw [hfl] at hZ0
              have hZ1 := hZ0.to (by ac_rfl : _ = blk bA (.cells FE 55) • blk bB (.cells FE 55) • blk b (.cells #[.int .i64 n, .slice A R2.length c] 28) • arr 55 40 (.slice A R2.length c) R2.length ((flws R2).flatMap Flw.enc) • fltab t (roomOf n) R2 next • blk bw (.cells QE 37) • blk bo (.cells OE 32) • emp)
              have hZ := hZ1.drew
              clear hZ0 hZ1 hXB hst HBB
              have HFIN := Lib.hid (fun (W : World) (hW : Sat w.heap.size w W (blk bA (.cells FE 55) • blk bB (.cells FE 55) • blk b (.cells #[.int .i64 n, .slice A R2.length c] 28) • arr 55 40 (.slice A R2.length c) R2.length ((flws R2).flatMap Flw.enc) • fltab t (roomOf n) R2 next • blk bw (.cells QE 37) • blk bo (.cells OE 32) • emp)) => ((Sat.gref_shut (L := flws R2) (F := fltab t (roomOf n) R2 next • emp) (v := .slice A R2.length c) (by rw [hfl]; exact (hW.to (by ac_rfl : _ = blk bA (.cells FE 55) • blk bB (.cells FE 55) • blk bw (.cells QE 37) • blk bo (.cells OE 32) • blk b (.cells #[.int .i64 n, .slice A R2.length c] 28) • arr 55 40 (.slice A R2.length c) R2.length ((flws R2).flatMap Flw.enc) • fltab t (roomOf n) R2 next • emp)).drop.drop.drop.drop) : Sat w.heap.size w W (gref b n (flws R2) • fltab t (roomOf n) R2 next • emp))))
              have HLEN := Lib.hid (fun (W : World) (hW : Sat w.heap.size w W (blk bA (.cells FE 55) • blk bB (.cells FE 55) • blk b (.cells #[.int .i64 n, .slice A R2.length c] 28) • arr 55 40 (.slice A R2.length c) R2.length ((flws R2).flatMap Flw.enc) • fltab t (roomOf n) R2 next • blk bw (.cells QE 37) • blk bo (.cells OE 32) • emp)) => flLen_any (hW.to (by ac_rfl : _ = fltab t (roomOf n) R2 next • (blk bA (.cells FE 55) • blk bB (.cells FE 55) • blk b (.cells #[.int .i64 n, .slice A R2.length c] 28) • arr 55 40 (.slice A R2.length c) R2.length ((flws R2).flatMap Flw.enc) • blk bw (.cells QE 37) • blk bo (.cells OE 32) • emp))))
              have HALL := Lib.hid (fun (W : World) (hW : Sat w.heap.size w W (blk bA (.cells FE 55) • blk bB (.cells FE 55) • blk b (.cells #[.int .i64 n, .slice A R2.length c] 28) • arr 55 40 (.slice A R2.length c) R2.length ((flws R2).flatMap Flw.enc) • fltab t (roomOf n) R2 next • blk bw (.cells QE 37) • blk bo (.cells OE 32) • emp)) => flAll_any (hW.to (by ac_rfl : _ = fltab t (roomOf n) R2 next • (blk bA (.cells FE 55) • blk bB (.cells FE 55) • blk b (.cells #[.int .i64 n, .slice A R2.length c] 28) • arr 55 40 (.slice A R2.length c) R2.length ((flws R2).flatMap Flw.enc) • blk bw (.cells QE 37) • blk bo (.cells OE 32) • emp))))
              have HPL := Lib.hid (fun (W : World) (A3 : Option Addr) (c3 : Nat) (G : HP) (hW : Sat w.heap.size w W (arr 55 40 (.slice A3 R2.length c3) R2.length ((flws R2).flatMap Flw.enc) • arr 55 40 (.slice A R2.length c) R2.length ((flws R2).flatMap Flw.enc) • G)) => (show Calls Tryz.prog 23 #[.slice A3 R2.length c3, .slice A R2.length c] W fun e w' => e = .returned (.bool true) ∧ Below W.heap.size W w' by
                have hr1 : RowsAt Flw.enc W (.slice A3 R2.length c3) (flws R2) := ⟨by rw [hfl]; exact hW.arr_reads, by rw [hfl]; unfold maxLen; omega⟩
                have hr2 : RowsAt Flw.enc W (.slice A R2.length c) (flws R2) := ⟨by rw [hfl]; exact hW.pull2.arr_reads, by rw [hfl]; unfold maxLen; omega⟩
                have := plainW_any _ _ _ _ W hr1 hr2
                rw [sameOf_refl eqD_refl] at this
                exact this))
              clear hfl
              have hC : WB.drew.heap[bA]? = some (.cells FE 55) ∧ WB.drew.heap[bB]? = some (.cells FE 55) ∧ WB.drew.cell? ⟨b, 1, none⟩ = some (.slice A R2.length c) := ⟨hZ.heap, hZ.pull2.heap, cell_heap hZ.pull3.heap rfl⟩
              have hnn : (((R2.length : Nat) : Int) != ((R2.length : Nat) : Int)) = false := by simp
              go_wp2_with fail
              try go_frame
              refine wp_region_ord [(0, .pure), (1, .pure), (2, .pure), (3, .quiet), (4, .quiet), (5, .pure), (6, .pure), (7, .pure), (8, .pure), (9, .pure), (10, .pure), (11, .pure), (12, .pure), (13, .pure), (15, .pure), (16, .pure), (17, .pure), (18, .quiet), (19, .pure), (14, .acts), (20, .pure), (21, .pure), (22, .pure), (23, .pure), (25, .pure), (26, .pure), (27, .pure), (28, .quiet), (24, .acts), (29, .acts), (30, .pure), (31, .pure)] (by kernel_rfl) (by kernel_rfl)
                (fun w' => w'.heap[bA]? = some (.cells FE 55) ∧ w'.heap[bB]? = some (.cells FE 55) ∧ w'.cell? ⟨b, 1, none⟩ = some (.slice A R2.length c)) hC ?_
              iterate 3 (refine ord_pure rfl rfl rfl (fun K' hK => ?_); go_big_quiet_op; refine hK _ ?_; clear hK K')
              refine ord_load (t := 55) rfl rfl rfl (p := .pointer (some ⟨bA, 0, none⟩)) (v := .agg FE) rfl (fun w' hC => HLF.out _ _ hC.1) (fun K' hK => ?_)
              go_simp
              refine hK _ ?_
              clear hK K'
              refine ord_load (t := 55) rfl rfl rfl (p := .pointer (some ⟨bB, 0, none⟩)) (v := .agg FE) rfl (fun w' hC => HLF.out _ _ hC.2.1) (fun K' hK => ?_)
              go_simp
              refine hK _ ?_
              clear hK K'
              refine ord_neq_agg rfl rfl rfl rfl rfl (by kernel_rfl) (fun w' => HEQ.out w') (fun K' hK => ?_)
              go_simp
              refine hK _ ?_
              clear hK K'
              iterate 11 (refine ord_pure rfl rfl rfl (fun K' hK => ?_); go_big_quiet_op; refine hK _ ?_; clear hK K')
              refine ord_load (t := 26) rfl rfl rfl (p := .pointer (some ⟨b, 1, none⟩)) (v := .slice A R2.length c) rfl (fun w' hC => load_one Tryz.underlying26 rfl hC.2.2) (fun K' hK => ?_)
              go_simp
              refine hK _ ?_
              clear hK K'
              iterate 1 (refine ord_pure rfl rfl rfl (fun K' hK => ?_); go_big_quiet_op; refine hK _ ?_; clear hK K')
              refine ord_acts rfl rfl (fun K' hK => ?_)
              go_simp
              refine (HLEN.out _ hZ).mono ?_
              rintro e wy1 ⟨rfl, rfl⟩
              refine hK _ _ (hC) ?_
              clear hK K'
              go_simp
              iterate 7 (refine ord_pure rfl rfl rfl (fun K' hK => ?_); go_big_quiet_op; refine hK _ ?_; clear hK K')
              refine ord_load (t := 26) rfl rfl rfl (p := .pointer (some ⟨b, 1, none⟩)) (v := .slice A R2.length c) rfl (fun w' hC => load_one Tryz.underlying26 rfl hC.2.2) (fun K' hK => ?_)
              go_simp
              refine hK _ ?_
              clear hK K'
              refine ord_acts rfl rfl (fun K' hK => ?_)
              go_simp
              refine (HALL.out _ hZ).mono ?_
              rintro e wC ⟨v3, rfl, hP⟩
              obtain ⟨A3, c3, rfl⟩ := hP.arr_form
              refine hK _ _ (⟨hP.drop.pull2.heap, hP.drop.pull3.heap, cell_heap hP.drop.pull4.heap rfl⟩) ?_
              clear hK K'
              go_simp
              refine ord_acts rfl rfl (fun K' hK => ?_)
              go_simp
              refine (HPL.out _ A3 c3 _ (hP.to (by ac_rfl : _ = arr 55 40 (.slice A3 R2.length c3) R2.length ((flws R2).flatMap Flw.enc) • arr 55 40 (.slice A R2.length c) R2.length ((flws R2).flatMap Flw.enc) • (fltab t (roomOf n) R2 next • blk bA (.cells FE 55) • blk bB (.cells FE 55) • blk b (.cells #[.int .i64 n, .slice A R2.length c] 28) • blk bw (.cells QE 37) • blk bo (.cells OE 32) • emp)))).mono ?_
              rintro e wD ⟨rfl, hbD⟩
              have hQ := (hP.below_ hbD).drop.to (by ac_rfl : _ = blk bA (.cells FE 55) • blk bB (.cells FE 55) • blk b (.cells #[.int .i64 n, .slice A R2.length c] 28) • arr 55 40 (.slice A R2.length c) R2.length ((flws R2).flatMap Flw.enc) • fltab t (roomOf n) R2 next • blk bw (.cells QE 37) • blk bo (.cells OE 32) • emp)
              have HY := Lib.hid (HFIN.out _ hQ)
              refine hK _ _ (⟨hQ.heap, hQ.pull2.heap, cell_heap hQ.pull3.heap rfl⟩) ?_
              clear hK K'
              go_simp
              iterate 2 (refine ord_pure rfl rfl rfl (fun K' hK => ?_); go_big_quiet_op; refine hK _ ?_; clear hK K')
              refine ord_nil ?_
              go_wp2_with fail
              go_roundw
              case rel => exact ⟨k + 1, R2, next, nw, by omega, by omega, ⟨hw0, hw1⟩, rfl, by go_num, HY.out, HI2⟩
              case measure => simp [intOf]; omega
            · have hb4 : (kd == 4) = false := by simpa using h4
              have hD := hS7.drew
              have c7 := flBegin_any hD.pull3 hE.pos hE ⟨HI.out.nx.1, by have := HI.out.nx; omega⟩ q fl nw hw0 hw1
              rw [← HQE.out] at c7
              have c13 := fun (W : World) (p : Nat) (G : HP) (hW : Sat w.heap.size w W (gref b n (flws R) • G)) => gBegin_R (next := next) hW hRl p q fl nw hw0 hw1
              rw [← HQE.out] at c13
              have C13 := Lib.hid c13
              clear c13 hS7
              go_wp2_with fail
              try go_frame
              refine wp_region_ord [(0, .pure), (1, .pure), (2, .pure), (3, .quiet), (4, .pure), (5, .quiet), (6, .pure), (8, .pure), (9, .quiet), (10, .pure), (11, .quiet), (12, .pure), (7, .acts), (13, .acts), (14, .acts), (15, .pure), (16, .pure)] (by kernel_rfl) (by kernel_rfl)
                (fun w' => w'.heap[bw]? = some (.cells QE 37) ∧ w'.heap[bo]? = some (.cells OE 32)) ⟨hD.heap, hD.pull2.heap⟩ ?_
              iterate 3 (refine ord_pure rfl rfl rfl (fun K' hK => ?_); go_big_quiet_op; refine hK _ ?_; clear hK K')
              refine ord_load (t := 37) rfl rfl rfl (p := .pointer (some ⟨bw, 0, none⟩)) (v := .agg QE) rfl (fun w' hC => (HQF.out _ hC.1).2) (fun K' hK => ?_)
              go_simp
              refine hK _ ?_
              clear hK K'
              iterate 1 (refine ord_pure rfl rfl rfl (fun K' hK => ?_); go_big_quiet_op; refine hK _ ?_; clear hK K')
              refine ord_load (t := 3) rfl rfl rfl (p := .pointer (some ⟨bo, 3, none⟩)) (v := .int .i64 fl) rfl (fun w' hC => load_one Tryz.underlying3 rfl (HOF.out _ hC.2).2.2.2.1) (fun K' hK => ?_)
              go_simp
              refine hK _ ?_
              clear hK K'
              iterate 2 (refine ord_pure rfl rfl rfl (fun K' hK => ?_); go_big_quiet_op; refine hK _ ?_; clear hK K')
              refine ord_load (t := 37) rfl rfl rfl (p := .pointer (some ⟨bw, 0, none⟩)) (v := .agg QE) rfl (fun w' hC => (HQF.out _ hC.1).2) (fun K' hK => ?_)
              go_simp
              refine hK _ ?_
              clear hK K'
              iterate 1 (refine ord_pure rfl rfl rfl (fun K' hK => ?_); go_big_quiet_op; refine hK _ ?_; clear hK K')
              refine ord_load (t := 3) rfl rfl rfl (p := .pointer (some ⟨bo, 3, none⟩)) (v := .int .i64 fl) rfl (fun w' hC => load_one Tryz.underlying3 rfl (HOF.out _ hC.2).2.2.2.1) (fun K' hK => ?_)
              go_simp
              refine hK _ ?_
              clear hK K'
              iterate 1 (refine ord_pure rfl rfl rfl (fun K' hK => ?_); go_big_quiet_op; refine hK _ ?_; clear hK K')
              refine ord_acts rfl rfl (fun K' hK => ?_)
              go_simp
              refine (c7).mono ?_
              rintro e wa ⟨p, rfl, hT⟩
              refine hK _ _ (⟨hT.pull2.heap, hT.pull3.heap⟩) ?_
              clear hK K'
              go_simp
              refine ord_acts rfl rfl (fun K' hK => ?_)
              go_simp
              refine (C13.out _ p _ hT.pull4).mono ?_
              rintro e wb ⟨rfl, hU⟩
              refine hK _ _ (⟨hU.pull3.heap, hU.pull4.heap⟩) ?_
              clear hK K'
              go_simp
              refine ord_acts rfl rfl (fun K' hK => ?_)
              go_simp
              refine (same_any _ _ _ (hU.et hE.pos hE)).mono ?_
              rintro e wc ⟨rfl, hbc⟩
              rw [beq_self_eq_true]
              have hU2 := hU.below_ hbc
              refine hK _ _ (⟨(hU.below_ hbc).pull3.heap, (hU.below_ hbc).pull4.heap⟩) ?_
              clear hK K'
              go_simp
              iterate 2 (refine ord_pure rfl rfl rfl (fun K' hK => ?_); go_big_quiet_op; refine hK _ ?_; clear hK K')
              refine ord_nil ?_
              have HI2 := Lib.hid (HBG.out p nw)
              have hV := hU2.to (by ac_rfl : _ = blk bw (.cells QE 37) • blk bo (.cells OE 32) • fltab t (roomOf n) (begR (roomOf n) R next p q fl nw) (begN (roomOf n) R next q fl) • gref b n (flws (begR (roomOf n) R next p q fl nw)) • emp)
              clear hU hU2 hT hD C13 c7
              generalize begR (roomOf n) R next p q fl nw = R2 at *
              generalize begN (roomOf n) R next q fl = next2 at *
              obtain ⟨f, th, hgv⟩ := getV_form R2 q
              have hff : (th != th) = false := by cases th <;> rfl
              have hRl2 : R2.length ≤ 1000 := by have := HI2.out.small; omega
              have c21 := flGet_any hV.pull3 q
              rw [hgv, ← HQE.out] at c21
              have hl21 := (HQF.out _ hV.heap).2
              have c22 := fun (W : World) (G : HP) (hW : Sat w.heap.size w W (gref b n (flws R2) • G)) => gGet_R hW hRl2 q
              rw [hgv, ← HQE.out] at c22
              have C22 := Lib.hid c22
              clear c22 hgv
              go_wp2_with (refine wpList_load_run (t := 37) rfl rfl rfl hl21 (stop_ ?_))
              unfold Stop
              go_wp2_with fail
              refine c21.mono ?_
              rintro e wA ⟨rfl, hA⟩
              have hst := flw_storeN f
              have hXA := hA.alloc (.cells f.enc.toArray 55)
              have hlf : ∀ (bx : Nat) (W : World), W.heap[bx]? = some (.cells f.enc.toArray 55) → (Instr.loadAt 55 (.pointer (some ⟨bx, 0, none⟩))).run Tryz.prog W = .ok (.agg f.enc.toArray) W :=
                fun bx W h => run_loadAt_row h Tryz.underlying55 rfl (by rw [Flw.enc_length]; kernel_rfl) (fun j u hu => by simpa using hu)
              have HLF := Lib.hid hlf
              have HEQ := Lib.hid (fun w' : World => (flw_eq 9995 f f : EqV Tryz.prog w' 10000 55 _ _ (decide (f = f))))
              rw [decide_eq_true (rfl : f = f)] at HEQ
              generalize f.enc.toArray = FE at *
              generalize hbA : wA.heap.size = bA at *
              generalize hWA : wA.alloc (.cells FE 55) = WA at *
              have HBA := Lib.hid (And.intro hbA hWA)
              clear c21 hA hbA hWA hlf hl21 hV
              go_wp2_with (refine wpList_store_run (t := 55) rfl rfl rfl rfl (hst _ _ rfl) (stop_ ?_))
              unfold Stop
              rw [HBA.out.2, HBA.out.1]
              have hl22 := (HQF.out _ hXA.pull3.heap).2
              have c22 := C22.out _ _ (hXA.to (by ac_rfl : _ = gref b n (flws R2) • blk bA (.cells FE 55) • fltab t (roomOf n) R2 next2 • blk bw (.cells QE 37) • blk bo (.cells OE 32) • emp))
              clear HBA hXA
              go_wp2_with (refine wpList_load_run (t := 37) rfl rfl rfl hl22 (stop_ ?_))
              unfold Stop
              go_wp2_with fail
              refine c22.mono ?_
              rintro e wB ⟨rfl, hB⟩
              have hXB := hB.alloc (.cells FE 55)
              generalize hbB : wB.heap.size = bB at *
              generalize hWB : wB.alloc (.cells FE 55) = WB at *
              have HBB := Lib.hid (And.intro hbB hWB)
              clear c22 hB hbB hWB hl22
              go_wp2_with (refine wpList_store_run (t := 55) rfl rfl rfl rfl (hst _ _ rfl) (stop_ ?_))
              unfold Stop
              rw [HBB.out.2, HBB.out.1]
              obtain ⟨A, c, hZ0⟩ := (hXB.pull2).gref_open
              have hfl := flws_length R2
              rw [hfl] at hZ0
              have hZ1 := hZ0.to (by ac_rfl : _ = blk bA (.cells FE 55) • blk bB (.cells FE 55) • blk b (.cells #[.int .i64 n, .slice A R2.length c] 28) • arr 55 40 (.slice A R2.length c) R2.length ((flws R2).flatMap Flw.enc) • fltab t (roomOf n) R2 next2 • blk bw (.cells QE 37) • blk bo (.cells OE 32) • emp)
              have hZ := hZ1.drew
              clear hZ0 hZ1 hXB hst HBB
              have HFIN := Lib.hid (fun (W : World) (hW : Sat w.heap.size w W (blk bA (.cells FE 55) • blk bB (.cells FE 55) • blk b (.cells #[.int .i64 n, .slice A R2.length c] 28) • arr 55 40 (.slice A R2.length c) R2.length ((flws R2).flatMap Flw.enc) • fltab t (roomOf n) R2 next2 • blk bw (.cells QE 37) • blk bo (.cells OE 32) • emp)) => ((Sat.gref_shut (L := flws R2) (F := fltab t (roomOf n) R2 next2 • emp) (v := .slice A R2.length c) (by rw [hfl]; exact (hW.to (by ac_rfl : _ = blk bA (.cells FE 55) • blk bB (.cells FE 55) • blk bw (.cells QE 37) • blk bo (.cells OE 32) • blk b (.cells #[.int .i64 n, .slice A R2.length c] 28) • arr 55 40 (.slice A R2.length c) R2.length ((flws R2).flatMap Flw.enc) • fltab t (roomOf n) R2 next2 • emp)).drop.drop.drop.drop) : Sat w.heap.size w W (gref b n (flws R2) • fltab t (roomOf n) R2 next2 • emp))))
              have HLEN := Lib.hid (fun (W : World) (hW : Sat w.heap.size w W (blk bA (.cells FE 55) • blk bB (.cells FE 55) • blk b (.cells #[.int .i64 n, .slice A R2.length c] 28) • arr 55 40 (.slice A R2.length c) R2.length ((flws R2).flatMap Flw.enc) • fltab t (roomOf n) R2 next2 • blk bw (.cells QE 37) • blk bo (.cells OE 32) • emp)) => flLen_any (hW.to (by ac_rfl : _ = fltab t (roomOf n) R2 next2 • (blk bA (.cells FE 55) • blk bB (.cells FE 55) • blk b (.cells #[.int .i64 n, .slice A R2.length c] 28) • arr 55 40 (.slice A R2.length c) R2.length ((flws R2).flatMap Flw.enc) • blk bw (.cells QE 37) • blk bo (.cells OE 32) • emp))))
              have HALL := Lib.hid (fun (W : World) (hW : Sat w.heap.size w W (blk bA (.cells FE 55) • blk bB (.cells FE 55) • blk b (.cells #[.int .i64 n, .slice A R2.length c] 28) • arr 55 40 (.slice A R2.length c) R2.length ((flws R2).flatMap Flw.enc) • fltab t (roomOf n) R2 next2 • blk bw (.cells QE 37) • blk bo (.cells OE 32) • emp)) => flAll_any (hW.to (by ac_rfl : _ = fltab t (roomOf n) R2 next2 • (blk bA (.cells FE 55) • blk bB (.cells FE 55) • blk b (.cells #[.int .i64 n, .slice A R2.length c] 28) • arr 55 40 (.slice A R2.length c) R2.length ((flws R2).flatMap Flw.enc) • blk bw (.cells QE 37) • blk bo (.cells OE 32) • emp))))
              have HPL := Lib.hid (fun (W : World) (A3 : Option Addr) (c3 : Nat) (G : HP) (hW : Sat w.heap.size w W (arr 55 40 (.slice A3 R2.length c3) R2.length ((flws R2).flatMap Flw.enc) • arr 55 40 (.slice A R2.length c) R2.length ((flws R2).flatMap Flw.enc) • G)) => (show Calls Tryz.prog 23 #[.slice A3 R2.length c3, .slice A R2.length c] W fun e w' => e = .returned (.bool true) ∧ Below W.heap.size W w' by
                have hr1 : RowsAt Flw.enc W (.slice A3 R2.length c3) (flws R2) := ⟨by rw [hfl]; exact hW.arr_reads, by rw [hfl]; unfold maxLen; omega⟩
                have hr2 : RowsAt Flw.enc W (.slice A R2.length c) (flws R2) := ⟨by rw [hfl]; exact hW.pull2.arr_reads, by rw [hfl]; unfold maxLen; omega⟩
                have := plainW_any _ _ _ _ W hr1 hr2
                rw [sameOf_refl eqD_refl] at this
                exact this))
              clear hfl
              have hC : WB.drew.heap[bA]? = some (.cells FE 55) ∧ WB.drew.heap[bB]? = some (.cells FE 55) ∧ WB.drew.cell? ⟨b, 1, none⟩ = some (.slice A R2.length c) := ⟨hZ.heap, hZ.pull2.heap, cell_heap hZ.pull3.heap rfl⟩
              have hnn : (((R2.length : Nat) : Int) != ((R2.length : Nat) : Int)) = false := by simp
              go_wp2_with fail
              try go_frame
              refine wp_region_ord [(0, .pure), (1, .pure), (2, .pure), (3, .quiet), (4, .quiet), (5, .pure), (6, .pure), (7, .pure), (8, .pure), (9, .pure), (10, .pure), (11, .pure), (12, .pure), (13, .pure), (15, .pure), (16, .pure), (17, .pure), (18, .quiet), (19, .pure), (14, .acts), (20, .pure), (21, .pure), (22, .pure), (23, .pure), (25, .pure), (26, .pure), (27, .pure), (28, .quiet), (24, .acts), (29, .acts), (30, .pure), (31, .pure)] (by kernel_rfl) (by kernel_rfl)
                (fun w' => w'.heap[bA]? = some (.cells FE 55) ∧ w'.heap[bB]? = some (.cells FE 55) ∧ w'.cell? ⟨b, 1, none⟩ = some (.slice A R2.length c)) hC ?_
              iterate 3 (refine ord_pure rfl rfl rfl (fun K' hK => ?_); go_big_quiet_op; refine hK _ ?_; clear hK K')
              refine ord_load (t := 55) rfl rfl rfl (p := .pointer (some ⟨bA, 0, none⟩)) (v := .agg FE) rfl (fun w' hC => HLF.out _ _ hC.1) (fun K' hK => ?_)
              go_simp
              refine hK _ ?_
              clear hK K'
              refine ord_load (t := 55) rfl rfl rfl (p := .pointer (some ⟨bB, 0, none⟩)) (v := .agg FE) rfl (fun w' hC => HLF.out _ _ hC.2.1) (fun K' hK => ?_)
              go_simp
              refine hK _ ?_
              clear hK K'
              refine ord_neq_agg rfl rfl rfl rfl rfl (by kernel_rfl) (fun w' => HEQ.out w') (fun K' hK => ?_)
              go_simp
              refine hK _ ?_
              clear hK K'
              iterate 11 (refine ord_pure rfl rfl rfl (fun K' hK => ?_); go_big_quiet_op; refine hK _ ?_; clear hK K')
              refine ord_load (t := 26) rfl rfl rfl (p := .pointer (some ⟨b, 1, none⟩)) (v := .slice A R2.length c) rfl (fun w' hC => load_one Tryz.underlying26 rfl hC.2.2) (fun K' hK => ?_)
              go_simp
              refine hK _ ?_
              clear hK K'
              iterate 1 (refine ord_pure rfl rfl rfl (fun K' hK => ?_); go_big_quiet_op; refine hK _ ?_; clear hK K')
              refine ord_acts rfl rfl (fun K' hK => ?_)
              go_simp
              refine (HLEN.out _ hZ).mono ?_
              rintro e wy1 ⟨rfl, rfl⟩
              refine hK _ _ (hC) ?_
              clear hK K'
              go_simp
              iterate 7 (refine ord_pure rfl rfl rfl (fun K' hK => ?_); go_big_quiet_op; refine hK _ ?_; clear hK K')
              refine ord_load (t := 26) rfl rfl rfl (p := .pointer (some ⟨b, 1, none⟩)) (v := .slice A R2.length c) rfl (fun w' hC => load_one Tryz.underlying26 rfl hC.2.2) (fun K' hK => ?_)
              go_simp
              refine hK _ ?_
              clear hK K'
              refine ord_acts rfl rfl (fun K' hK => ?_)
              go_simp
              refine (HALL.out _ hZ).mono ?_
              rintro e wC ⟨v3, rfl, hP⟩
              obtain ⟨A3, c3, rfl⟩ := hP.arr_form
              refine hK _ _ (⟨hP.drop.pull2.heap, hP.drop.pull3.heap, cell_heap hP.drop.pull4.heap rfl⟩) ?_
              clear hK K'
              go_simp
              refine ord_acts rfl rfl (fun K' hK => ?_)
              go_simp
              refine (HPL.out _ A3 c3 _ (hP.to (by ac_rfl : _ = arr 55 40 (.slice A3 R2.length c3) R2.length ((flws R2).flatMap Flw.enc) • arr 55 40 (.slice A R2.length c) R2.length ((flws R2).flatMap Flw.enc) • (fltab t (roomOf n) R2 next2 • blk bA (.cells FE 55) • blk bB (.cells FE 55) • blk b (.cells #[.int .i64 n, .slice A R2.length c] 28) • blk bw (.cells QE 37) • blk bo (.cells OE 32) • emp)))).mono ?_
              rintro e wD ⟨rfl, hbD⟩
              have hQ := (hP.below_ hbD).drop.to (by ac_rfl : _ = blk bA (.cells FE 55) • blk bB (.cells FE 55) • blk b (.cells #[.int .i64 n, .slice A R2.length c] 28) • arr 55 40 (.slice A R2.length c) R2.length ((flws R2).flatMap Flw.enc) • fltab t (roomOf n) R2 next2 • blk bw (.cells QE 37) • blk bo (.cells OE 32) • emp)
              have HY := Lib.hid (HFIN.out _ hQ)
              refine hK _ _ (⟨hQ.heap, hQ.pull2.heap, cell_heap hQ.pull3.heap rfl⟩) ?_
              clear hK K'
              go_simp
              iterate 2 (refine ord_pure rfl rfl rfl (fun K' hK => ?_); go_big_quiet_op; refine hK _ ?_; clear hK K')
              refine ord_nil ?_
              go_wp2_with fail
              go_roundw
              case rel => exact ⟨k + 1, R2, next2, nw, by omega, by omega, ⟨hw0, hw1⟩, rfl, by go_num, HY.out, HI2⟩
              case measure => simp [intOf]; omega
    · have hstop : (ops.length : Int) ≤ k ∨ ((k : Int) < ops.length ∧ (120 : Int) ≤ k) := by omega
      clear HI
      rcases hstop with h1 | ⟨h1, h2⟩
      · go_wp2_with fail
        go_ret
        exact ⟨rfl, hS.below⟩
      · go_wp2_with fail
        go_ret
        exact ⟨rfl, hS.below⟩
end Go.Proofs.YtepaanpdjadakaaGreatDoor
