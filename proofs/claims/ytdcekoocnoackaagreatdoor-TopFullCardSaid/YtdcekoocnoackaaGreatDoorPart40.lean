import Derived.Test.YtdcekoocnoackaaGreatDoorPart39
import Derived.Test.YtdcekoocnoackaaGreatDoorPart02
import Derived.Test.YtdcekoocnoackaaGreatDoorPart05
import Derived.ProofKit
import Derived.Test.YtdcekoocnoackaaGreatDoorPart38
import Derived.Test.YtdcekoocnoackaaGreatDoorPart12
import Derived.Deep.QuietTactic
import Derived.BigQuiet
import Derived.IntWalk
import Derived.Test.YtdcekoocnoackaaGreatDoorPart22
import Derived.Deep.Cut

/-! Flows: See. -/
namespace Go.Proofs.YtdcekoocnoackaaGreatDoor
open Go Go.RowKit

attribute [local irreducible] wpOrd
theorem find_cases (R : List FIt) (q : Tup) : (R.find? (isW q) = none ∧ ptrAt R q = .pointer none) ∨ ∃ (k : Nat) (x : FIt), R[k]? = some x ∧ x.key.tup = q ∧ R.find? (isW q) = some x ∧ ptrAt R q = .pointer (some ⟨x.key.p, 0, none⟩) ∧ R.any (isW q) = true := by
  unfold ptrAt
  cases h : R.find? (isW q) with
  | none => exact .inl ⟨rfl, rfl⟩
  | some x =>
    have h1 := List.find?_some h
    have h2 := List.mem_of_find?_eq_some h
    obtain ⟨k, hk⟩ := List.mem_iff_getElem?.1 h2
    exact .inr ⟨k, x, hk, by simpa [isW] using h1, rfl, rfl, List.any_eq_true.2 ⟨x, h2, h1⟩⟩
/-- What See answers, and what it leaves. -/
def seeR (R : List FIt) (q : Tup) (side flags now : Int) : Bool × List FIt := match R.find? (isW q) with
  | none => (false, R)
  | some x => if side = 0 ∨ side = 1 then
      (if (seeF q.proto x.key.ph side flags).1 = true then
        (if (seeF q.proto x.key.ph side flags).2.1 = true then (true, R.filter fun y => !isW q y) else (true, noteR R x.id (seeF q.proto x.key.ph side flags).2.2 (aft now (lastsF q.proto (seeF q.proto x.key.ph side flags).2.2.st))))
       else (false, R))
    else (false, R)
def atDue (f : Flw) (u : Int) : Flw := { f with due := u }
theorem flw_set39 (f : Flw) (u : Int) : f.enc.toArray.setIfInBounds 39 (.int .u64 u) = (atDue f u).enc.toArray := by
  rw [List.setIfInBounds_toArray]
  congr 1
  unfold Flw.enc atDue
  rw [List.set_append_right _ _ (by rw [Tup.enc_length]; omega), Tup.enc_length]
  rfl
theorem noteR_ptrs (R : List FIt) (id : Int) (ph : Ph) (u : Int) : (noteR R id ph u).flatMap ptrC = R.flatMap ptrC := by
  unfold noteR
  rw [List.flatMap_map]
  congr 1
  funext x
  unfold ptrC
  by_cases e : x.id = id <;> simp [e]
section
variable {B : Nat} {w0 w w' : World} {F : HP} {R : List FIt} {t room : Nat} {next : Int}
theorem it_store {p : Nat} {x y : FIt} (hi : x.id = y.id) (hS : Sat B w0 w (blk p (.cells (flC x).toArray 153) • F)) : ∃ W', (Instr.storeAt 149 (.pointer (some ⟨p, 0, none⟩)) (.agg (flwOf y).enc.toArray)).run Tryz.prog w = .ok () W' ∧ Sat B w0 W' (blk p (.cells (flC y).toArray 153) • F) := by
  have hst := run_storeAt_row (P := Tryz.prog) (o := 0) (ty := 149) (v := .agg (flwOf y).enc.toArray) hS.heap (by simp only [Value.cells, List.size_toArray, Flw.enc_length]; kernel_rfl) (by simp [Value.cells, Flw.enc_length, flC_length]) (by simpa [Value.cells] using (flwOf y).enc_one)
  have hS2 := hS.setRow (cs := splice (flC x).toArray 0 (Value.agg (flwOf y).enc.toArray).cells.toList)
  refine ⟨_, hst, ?_⟩
  have hs : splice (flC x).toArray 0 (Value.agg (flwOf y).enc.toArray).cells.toList = (flC y).toArray := by
    show splice (flC x).toArray 0 (flwOf y).enc = (flC y).toArray
    unfold splice
    rw [List.take_zero, List.nil_append, Nat.zero_add, Flw.enc_length]
    unfold flC
    rw [List.drop_left' (Flw.enc_length _), hi]
  rw [hs] at hS2 ⊢
  exact hS2
set_option maxRecDepth 8000 in
set_option maxHeartbeats 16000000 in
theorem flSee_any (h : Sat B w0 w (fltab t room R next • F)) (hn : KNW R) (q : Tup) (side flags now : Int) (hn0 : 0 ≤ now) (hn1 : now ≤ 18446744073709551615) : Calls Tryz.prog 159 #[.pointer (some ⟨t, 0, none⟩), .agg q.enc.toArray, .int .i64 side, .int .i64 flags, .int .u64 now] w fun e w' =>
    e = .returned (.bool (seeR R q side flags now).1) ∧ Sat B w0 w' (fltab t room (seeR R q side flags now).2 next • F) := by
  have e0 : errV 0 = .nilIface := rfl
  have hX := h.alloc (.cells q.enc.toArray 39)
  have hlq : ∀ W, W.heap[w.heap.size]? = some (.cells q.enc.toArray 39) → (Instr.loadAt 39 (.pointer (some ⟨w.heap.size, 0, none⟩))).run Tryz.prog W = .ok (.agg q.enc.toArray) W :=
    fun W h => run_loadAt_row h Tryz.underlying39 rfl (by rw [Tup.enc_length]; kernel_rfl) (fun j u hu => by simpa using hu)
  have HLQ := Lib.hid hlq
  have hl1 := hlq _ hX.heap
  have c1 := flFind_any hX.pull2 q
  have hrem := fun (W : World) (hW : Sat B w0 W (fltab t room R next • blk w.heap.size (.cells q.enc.toArray 39) • F)) => flRemove_any hW hn q
  clear hlq h hX
  rcases find_cases R q with ⟨hf, hpt⟩ | ⟨k, x, hx, hxq, hf, hpt, hany⟩
  · have hr : seeR R q side flags now = (false, R) := by unfold seeR; rw [hf]
    rw [hr]
    rw [hpt] at c1
    clear hf hpt hr hrem
    generalize q.enc.toArray = QE at *
    generalize hxb : w.heap.size = xb at *
    go_enter Tryz.func159, Tryz.ntmps159
    go_wp2_with (refine wpList_load_run (t := 39) rfl rfl rfl hl1 ?_)
    try rw [hxb]
    refine c1.mono ?_
    rintro e w1 ⟨rfl, hS1⟩
    go_wp2_with fail
    go_ret
    exact ⟨rfl, hS1.pull2.drop⟩
  · rw [hpt] at c1
    by_cases hsd : side = 0 ∨ side = 1
    · have hr : seeR R q side flags now = (if (seeF q.proto x.key.ph side flags).1 = true then
          (if (seeF q.proto x.key.ph side flags).2.1 = true then (true, R.filter fun y => !isW q y) else (true, noteR R x.id (seeF q.proto x.key.ph side flags).2.2 (aft now (lastsF q.proto (seeF q.proto x.key.ph side flags).2.2.st))))
          else (false, R)) := by
        unfold seeR; rw [hf]; exact if_pos hsd
      generalize seeR R q side flags now = sr at *
      have HR := Lib.hid hr
      have HX := Lib.hid hx
      have HNY := Lib.hid hany
      have HXQ := Lib.hid hxq
      clear hf hpt hr hx hany hxq
      generalize hQE : q.enc.toArray = QE at *
      clear hQE
      generalize hxb : w.heap.size = xb at *
      rcases hsd with rfl | rfl
      · go_enter Tryz.func159, Tryz.ntmps159
        go_wp2_with (refine wpList_load_run (t := 39) rfl rfl rfl hl1 ?_)
        try rw [hxb]
        refine c1.mono ?_
        rintro e w1 ⟨rfl, hS1⟩
        obtain ⟨A, c, qq, hg, hl1', hl2, hT⟩ := hS1.fl_open
        have hlf := flw_load (hT.drop.drop.drop.it_heap HX.out)
        have hst : ∀ (W : World) (z : Array Value), z.size = 40 → (Instr.storeAt 149 (.pointer (some ⟨W.heap.size, 0, none⟩)) (.agg (flwOf x).enc.toArray)).run Tryz.prog (W.alloc (.cells z 149)) = .ok () (W.alloc (.cells (flwOf x).enc.toArray 149)) :=
          fun W z hz => run_storeAt_new (v := .agg (flwOf x).enc.toArray) (by simp only [Value.cells, List.size_toArray, Flw.enc_length]; kernel_rfl) (by simp only [Value.cells, List.size_toArray, Flw.enc_length]; exact hz) (by simpa [Value.cells] using (flwOf x).enc_one)
        have hX2 := hT.alloc (.cells (flwOf x).enc.toArray 149)
        have HG := Lib.hid hg
        generalize hbf : w1.heap.size = bf at *
        generalize hWf : w1.alloc (.cells (flwOf x).enc.toArray 149) = Wf at *
        have HBF := Lib.hid hbf
        have HWF := Lib.hid hWf
        clear c1 hS1 hT hl1 hl1' hg hWf hbf
        go_wp2_with (first | (refine wpList_load_run (t := 149) rfl rfl rfl hlf ?_) | (refine wpList_store_run (t := 149) rfl rfl rfl rfl (hst _ _ rfl) (stop_ ?_)))
        unfold Stop
        try rw [HWF.out]
        try rw [HBF.out]
        go_wp2_with fail
        refine (see_any hX2 0 flags).mono ?_
        rintro e w3 ⟨rfl, hS3⟩
        rw [show (flwOf x).tup.proto = q.proto from congrArg Tup.proto HXQ.out, show phOf (flwOf x) = x.key.ph from rfl] at hS3 ⊢
        clear hX2 hlf hst HBF HWF
        obtain ⟨sp, hsp⟩ : ∃ sp, sp = seeF q.proto x.key.ph 0 flags := ⟨_, rfl⟩
        rw [← hsp] at hS3 ⊢
        obtain ⟨may, ends, ph⟩ := sp
        simp only at hS3 ⊢
        have HSP := Lib.hid hsp
        clear hsp
        cases may with
        | false =>
          go_wp2_with fail
          go_ret
          rw [HR.out, ← HSP.out]
          exact ⟨rfl, (Sat.fl_shut (v := .slice A R.length c) (q := qq) HG.out hS3.drop).pull2.drop⟩
        | true =>
          cases ends with
          | true =>
            have hS4 := Sat.fl_shut (v := .slice A R.length c) (q := qq) HG.out hS3.drop
            have hlx := HLQ.out w3 hS4.pull2.heap
            have c4 := hrem w3 hS4
            rw [HNY.out] at c4
            clear hS3 hS4 hrem
            go_wp2_with (refine wpList_load_run (t := 39) rfl rfl rfl hlx ?_)
            refine c4.mono ?_
            rintro e w5 ⟨rfl, hS5⟩
            go_wp2_with fail
            go_ret
            rw [HR.out, ← HSP.out]
            exact ⟨rfl, hS5.pull2.drop⟩
          | false =>
            have hlb := run_loadAt_row (P := Tryz.prog) (o := 0) (ty := 149) (cs := (withPh (flwOf x) ph).enc) hS3.heap Tryz.underlying149 rfl (by rw [Flw.enc_length]; kernel_rfl) (fun j u hu => by simpa using hu)
            have hbd := lastsF_bd q.proto ph.st
            clear hrem
            go_wp2_with (refine wpList_load_run (t := 149) rfl rfl rfl hlb ?_)
            refine (lasts_any (withPh (flwOf x) ph) _).mono ?_
            rintro e w5 ⟨rfl, hb5⟩
            rw [show (withPh (flwOf x) ph).tup.proto = q.proto from congrArg Tup.proto HXQ.out, show (withPh (flwOf x) ph).st = ph.st from rfl]
            have hS5 := hS3.below_ hb5
            clear hS3 hb5 hlb
            go_wp2_with fail
            refine (sum_any now (lastsF q.proto ph.st) _ hn0 hn1 hbd.1 hbd.2).mono ?_
            rintro e wz ⟨rfl, rfl⟩
            obtain ⟨u, hu⟩ : ∃ u, u = aft now (lastsF q.proto ph.st) := ⟨_, rfl⟩
            rw [← hu]
            have HU := Lib.hid hu
            clear hu hbd
            obtain ⟨w6, hr6, hS6⟩ := one_store (o := 39) (ty := 49) (u := .int .u64 u) hS5 (by kernel_rfl) (by simp [Flw.enc_length]) rfl rfl
            rw [flw_set39] at hS6
            clear hS5
            go_wp2_with (refine wpList_store_run (t := 49) rfl rfl rfl rfl hr6 (stop_ ?_))
            unfold Stop
            have hlc := run_loadAt_row (P := Tryz.prog) (o := 0) (ty := 149) (cs := (atDue (withPh (flwOf x) ph) u).enc) hS6.heap Tryz.underlying149 rfl (by rw [Flw.enc_length]; kernel_rfl) (fun j u hu => by simpa using hu)
            rw [its_mid HX.out] at hS6
            dsimp only [itb] at hS6
            have hS6b := hS6.to (by ac_rfl : _ = blk x.key.p (.cells (flC x).toArray 153) • blk bf (.cells (atDue (withPh (flwOf x) ph) u).enc.toArray 149) • blk t (.cells #[.slice A R.length c, .pointer (some ⟨qq, 0, none⟩), .int .i64 next] 119) • arr 151 1 (.slice A R.length c) R.length (R.flatMap ptrC) • queue qq room (ents R) • its (R.take k ++ R.drop (k + 1)) (blk xb (.cells QE 39) • F))
            obtain ⟨w7, hr7, hS7⟩ := it_store (x := x) (y := ⟨{ x.key with ph := ph }, x.id, u⟩) rfl hS6b
            have hfe : flwOf (⟨{ x.key with ph := ph }, x.id, u⟩ : FIt) = atDue (withPh (flwOf x) ph) u := rfl
            rw [hfe] at hr7
            have hid : w7.drew.cell? ⟨x.key.p, 40, none⟩ = some (.int .i64 x.id) := cell_heap hS7.drew.heap (by rw [List.getElem?_toArray]; exact flC_id (⟨{ x.key with ph := ph }, x.id, u⟩ : FIt))
            have hdu : w7.drew.cell? ⟨bf, 39, none⟩ = some (.int .u64 u) := cell_heap hS7.drew.pull2.heap (by rw [List.getElem?_toArray]; exact (atDue (withPh (flwOf x) ph) u).at37 2)
            have hS8 := hS7.drew
            have hC12 : w7.drew.cell? ⟨t, 1, none⟩ = some (.pointer (some ⟨qq, 0, none⟩)) ∧ w7.drew.cell? ⟨x.key.p, 40, none⟩ = some (.int .i64 x.id) ∧ w7.drew.cell? ⟨bf, 39, none⟩ = some (.int .u64 u) := ⟨cell_heap hS8.pull3.heap rfl, hid, hdu⟩
            have hmv := qMove_any (hS8.to (by ac_rfl : _ = queue qq room (ents R) • blk x.key.p (.cells (flC (⟨{ x.key with ph := ph }, x.id, u⟩ : FIt)).toArray 153) • blk bf (.cells (atDue (withPh (flwOf x) ph) u).enc.toArray 149) • blk t (.cells #[.slice A R.length c, .pointer (some ⟨qq, 0, none⟩), .int .i64 next] 119) • arr 151 1 (.slice A R.length c) R.length (R.flatMap ptrC) • its (R.take k ++ R.drop (k + 1)) (blk xb (.cells QE 39) • F))) x.id u
            rw [noneC_yes (itm_has (List.mem_of_getElem? HX.out)), e0, ← noteR_ents (ph := ph)] at hmv
            have HNS := Lib.hid (noteR_set HG.out HX.out ph u)
            have HGN := Lib.hid (HG.out.noteR x.id ph u)
            clear hS6 hS6b hS7 hS8 hid hdu hfe
            generalize (atDue (withPh (flwOf x) ph) u).enc.toArray = FE at *
            generalize hxp : x.key.p = xp at *
            generalize hxi : x.id = xi at *
            go_wp2_with (first | (refine wpList_load_run (t := 149) rfl rfl rfl hlc ?_) | (refine wpList_store_run (t := 149) rfl rfl rfl rfl hr7 (stop_ ?_)))
            unfold Stop
            go_wp2_with fail
            try go_frame
            refine wp_region_ord [(0, .pure), (1, .pure), (2, .pure), (3, .quiet), (4, .pure), (5, .pure), (6, .pure), (7, .quiet), (8, .pure), (9, .quiet), (10, .seals), (11, .pure), (12, .pure)] (by kernel_rfl) (by kernel_rfl)
              (fun w' => w'.cell? ⟨t, 1, none⟩ = some (.pointer (some ⟨qq, 0, none⟩)) ∧ w'.cell? ⟨xp, 40, none⟩ = some (.int .i64 xi) ∧ w'.cell? ⟨bf, 39, none⟩ = some (.int .u64 u)) hC12 ?_
            iterate 3 (refine ord_pure rfl rfl rfl (fun K' hK => ?_); go_big_quiet_op; refine hK _ ?_; clear hK K')
            refine ord_load (t := 106) rfl rfl rfl (p := .pointer (some ⟨t, 1, none⟩)) (v := .pointer (some ⟨qq, 0, none⟩)) rfl (fun w' hC => load_one Tryz.underlying106 rfl hC.1) (fun K' hK => ?_)
            go_simp
            refine hK _ ?_
            clear hK K'
            iterate 3 (refine ord_pure rfl rfl rfl (fun K' hK => ?_); go_big_quiet_op; refine hK _ ?_; clear hK K')
            refine ord_load (t := 3) rfl rfl rfl (p := .pointer (some ⟨xp, 40, none⟩)) (v := .int .i64 xi) rfl (fun w' hC => load_one Tryz.underlying3 rfl hC.2.1) (fun K' hK => ?_)
            go_simp
            refine hK _ ?_
            clear hK K'
            iterate 1 (refine ord_pure rfl rfl rfl (fun K' hK => ?_); go_big_quiet_op; refine hK _ ?_; clear hK K')
            refine ord_load (t := 49) rfl rfl rfl (p := .pointer (some ⟨bf, 39, none⟩)) (v := .int .u64 u) rfl (fun w' hC => load_one Tryz.underlying49 rfl hC.2.2) (fun K' hK => ?_)
            go_simp
            refine hK _ ?_
            clear hK K'
            refine ord_seals rfl rfl (fun K' hK => ?_)
            go_simp
            refine (hmv).mono ?_
            rintro e w12 ⟨rfl, hS12⟩
            refine hK (fun _ => True) _ _ trivial ?_
            clear hK K'
            go_simp
            iterate 2 (refine ord_pure rfl rfl rfl (fun K' hK => ?_); go_big_quiet_op; refine hK _ ?_; clear hK K')
            refine ord_nil ?_
            go_wp2_with fail
            go_ret
            rw [HR.out, ← HSP.out]
            simp only [if_true, Bool.false_eq_true, if_false]
            rw [← HU.out]
            refine ⟨rfl, ?_⟩
            have h9 := hS12.to (by ac_rfl : _ = blk bf (.cells FE 149) • blk t (.cells #[.slice A R.length c, .pointer (some ⟨qq, 0, none⟩), .int .i64 next] 119) • arr 151 1 (.slice A R.length c) R.length (R.flatMap ptrC) • queue qq room (ents (noteR R xi ph u)) • blk xp (.cells (flC (⟨{ x.key with ph := ph }, xi, u⟩ : FIt)).toArray 153) • its (R.take k ++ R.drop (k + 1)) (blk xb (.cells QE 39) • F))
            have h10 := h9.drop
            have h11 : its (noteR R xi ph u) (blk xb (.cells QE 39) • F) = blk xp (.cells (flC (⟨{ x.key with ph := ph }, xi, u⟩ : FIt)).toArray 153) • its (R.take k ++ R.drop (k + 1)) (blk xb (.cells QE 39) • F) := by
              rw [HNS.out, its_set HX.out]
              subst hxp
              rfl
            rw [← h11, ← noteR_ptrs R xi ph u] at h10
            have h12 := Sat.fl_shut (R := noteR R xi ph u) (v := .slice A R.length c) (q := qq) HGN.out (by rw [noteR_length]; exact h10)
            exact h12.pull2.drop
      · go_enter Tryz.func159, Tryz.ntmps159
        go_wp2_with (refine wpList_load_run (t := 39) rfl rfl rfl hl1 ?_)
        try rw [hxb]
        refine c1.mono ?_
        rintro e w1 ⟨rfl, hS1⟩
        obtain ⟨A, c, qq, hg, hl1', hl2, hT⟩ := hS1.fl_open
        have hlf := flw_load (hT.drop.drop.drop.it_heap HX.out)
        have hst : ∀ (W : World) (z : Array Value), z.size = 40 → (Instr.storeAt 149 (.pointer (some ⟨W.heap.size, 0, none⟩)) (.agg (flwOf x).enc.toArray)).run Tryz.prog (W.alloc (.cells z 149)) = .ok () (W.alloc (.cells (flwOf x).enc.toArray 149)) :=
          fun W z hz => run_storeAt_new (v := .agg (flwOf x).enc.toArray) (by simp only [Value.cells, List.size_toArray, Flw.enc_length]; kernel_rfl) (by simp only [Value.cells, List.size_toArray, Flw.enc_length]; exact hz) (by simpa [Value.cells] using (flwOf x).enc_one)
        have hX2 := hT.alloc (.cells (flwOf x).enc.toArray 149)
        have HG := Lib.hid hg
        generalize hbf : w1.heap.size = bf at *
        generalize hWf : w1.alloc (.cells (flwOf x).enc.toArray 149) = Wf at *
        have HBF := Lib.hid hbf
        have HWF := Lib.hid hWf
        clear c1 hS1 hT hl1 hl1' hg hWf hbf
        go_wp2_with (first | (refine wpList_load_run (t := 149) rfl rfl rfl hlf ?_) | (refine wpList_store_run (t := 149) rfl rfl rfl rfl (hst _ _ rfl) (stop_ ?_)))
        unfold Stop
        try rw [HWF.out]
        try rw [HBF.out]
        go_wp2_with fail
        refine (see_any hX2 1 flags).mono ?_
        rintro e w3 ⟨rfl, hS3⟩
        rw [show (flwOf x).tup.proto = q.proto from congrArg Tup.proto HXQ.out, show phOf (flwOf x) = x.key.ph from rfl] at hS3 ⊢
        clear hX2 hlf hst HBF HWF
        obtain ⟨sp, hsp⟩ : ∃ sp, sp = seeF q.proto x.key.ph 1 flags := ⟨_, rfl⟩
        rw [← hsp] at hS3 ⊢
        obtain ⟨may, ends, ph⟩ := sp
        simp only at hS3 ⊢
        have HSP := Lib.hid hsp
        clear hsp
        cases may with
        | false =>
          go_wp2_with fail
          go_ret
          rw [HR.out, ← HSP.out]
          exact ⟨rfl, (Sat.fl_shut (v := .slice A R.length c) (q := qq) HG.out hS3.drop).pull2.drop⟩
        | true =>
          cases ends with
          | true =>
            have hS4 := Sat.fl_shut (v := .slice A R.length c) (q := qq) HG.out hS3.drop
            have hlx := HLQ.out w3 hS4.pull2.heap
            have c4 := hrem w3 hS4
            rw [HNY.out] at c4
            clear hS3 hS4 hrem
            go_wp2_with (refine wpList_load_run (t := 39) rfl rfl rfl hlx ?_)
            refine c4.mono ?_
            rintro e w5 ⟨rfl, hS5⟩
            go_wp2_with fail
            go_ret
            rw [HR.out, ← HSP.out]
            exact ⟨rfl, hS5.pull2.drop⟩
          | false =>
            have hlb := run_loadAt_row (P := Tryz.prog) (o := 0) (ty := 149) (cs := (withPh (flwOf x) ph).enc) hS3.heap Tryz.underlying149 rfl (by rw [Flw.enc_length]; kernel_rfl) (fun j u hu => by simpa using hu)
            have hbd := lastsF_bd q.proto ph.st
            clear hrem
            go_wp2_with (refine wpList_load_run (t := 149) rfl rfl rfl hlb ?_)
            refine (lasts_any (withPh (flwOf x) ph) _).mono ?_
            rintro e w5 ⟨rfl, hb5⟩
            rw [show (withPh (flwOf x) ph).tup.proto = q.proto from congrArg Tup.proto HXQ.out, show (withPh (flwOf x) ph).st = ph.st from rfl]
            have hS5 := hS3.below_ hb5
            clear hS3 hb5 hlb
            go_wp2_with fail
            refine (sum_any now (lastsF q.proto ph.st) _ hn0 hn1 hbd.1 hbd.2).mono ?_
            rintro e wz ⟨rfl, rfl⟩
            obtain ⟨u, hu⟩ : ∃ u, u = aft now (lastsF q.proto ph.st) := ⟨_, rfl⟩
            rw [← hu]
            have HU := Lib.hid hu
            clear hu hbd
            obtain ⟨w6, hr6, hS6⟩ := one_store (o := 39) (ty := 49) (u := .int .u64 u) hS5 (by kernel_rfl) (by simp [Flw.enc_length]) rfl rfl
            rw [flw_set39] at hS6
            clear hS5
            go_wp2_with (refine wpList_store_run (t := 49) rfl rfl rfl rfl hr6 (stop_ ?_))
            unfold Stop
            have hlc := run_loadAt_row (P := Tryz.prog) (o := 0) (ty := 149) (cs := (atDue (withPh (flwOf x) ph) u).enc) hS6.heap Tryz.underlying149 rfl (by rw [Flw.enc_length]; kernel_rfl) (fun j u hu => by simpa using hu)
            rw [its_mid HX.out] at hS6
            dsimp only [itb] at hS6
            have hS6b := hS6.to (by ac_rfl : _ = blk x.key.p (.cells (flC x).toArray 153) • blk bf (.cells (atDue (withPh (flwOf x) ph) u).enc.toArray 149) • blk t (.cells #[.slice A R.length c, .pointer (some ⟨qq, 0, none⟩), .int .i64 next] 119) • arr 151 1 (.slice A R.length c) R.length (R.flatMap ptrC) • queue qq room (ents R) • its (R.take k ++ R.drop (k + 1)) (blk xb (.cells QE 39) • F))
            obtain ⟨w7, hr7, hS7⟩ := it_store (x := x) (y := ⟨{ x.key with ph := ph }, x.id, u⟩) rfl hS6b
            have hfe : flwOf (⟨{ x.key with ph := ph }, x.id, u⟩ : FIt) = atDue (withPh (flwOf x) ph) u := rfl
            rw [hfe] at hr7
            have hid : w7.drew.cell? ⟨x.key.p, 40, none⟩ = some (.int .i64 x.id) := cell_heap hS7.drew.heap (by rw [List.getElem?_toArray]; exact flC_id (⟨{ x.key with ph := ph }, x.id, u⟩ : FIt))
            have hdu : w7.drew.cell? ⟨bf, 39, none⟩ = some (.int .u64 u) := cell_heap hS7.drew.pull2.heap (by rw [List.getElem?_toArray]; exact (atDue (withPh (flwOf x) ph) u).at37 2)
            have hS8 := hS7.drew
            have hC12 : w7.drew.cell? ⟨t, 1, none⟩ = some (.pointer (some ⟨qq, 0, none⟩)) ∧ w7.drew.cell? ⟨x.key.p, 40, none⟩ = some (.int .i64 x.id) ∧ w7.drew.cell? ⟨bf, 39, none⟩ = some (.int .u64 u) := ⟨cell_heap hS8.pull3.heap rfl, hid, hdu⟩
            have hmv := qMove_any (hS8.to (by ac_rfl : _ = queue qq room (ents R) • blk x.key.p (.cells (flC (⟨{ x.key with ph := ph }, x.id, u⟩ : FIt)).toArray 153) • blk bf (.cells (atDue (withPh (flwOf x) ph) u).enc.toArray 149) • blk t (.cells #[.slice A R.length c, .pointer (some ⟨qq, 0, none⟩), .int .i64 next] 119) • arr 151 1 (.slice A R.length c) R.length (R.flatMap ptrC) • its (R.take k ++ R.drop (k + 1)) (blk xb (.cells QE 39) • F))) x.id u
            rw [noneC_yes (itm_has (List.mem_of_getElem? HX.out)), e0, ← noteR_ents (ph := ph)] at hmv
            have HNS := Lib.hid (noteR_set HG.out HX.out ph u)
            have HGN := Lib.hid (HG.out.noteR x.id ph u)
            clear hS6 hS6b hS7 hS8 hid hdu hfe
            generalize (atDue (withPh (flwOf x) ph) u).enc.toArray = FE at *
            generalize hxp : x.key.p = xp at *
            generalize hxi : x.id = xi at *
            go_wp2_with (first | (refine wpList_load_run (t := 149) rfl rfl rfl hlc ?_) | (refine wpList_store_run (t := 149) rfl rfl rfl rfl hr7 (stop_ ?_)))
            unfold Stop
            go_wp2_with fail
            try go_frame
            refine wp_region_ord [(0, .pure), (1, .pure), (2, .pure), (3, .quiet), (4, .pure), (5, .pure), (6, .pure), (7, .quiet), (8, .pure), (9, .quiet), (10, .seals), (11, .pure), (12, .pure)] (by kernel_rfl) (by kernel_rfl)
              (fun w' => w'.cell? ⟨t, 1, none⟩ = some (.pointer (some ⟨qq, 0, none⟩)) ∧ w'.cell? ⟨xp, 40, none⟩ = some (.int .i64 xi) ∧ w'.cell? ⟨bf, 39, none⟩ = some (.int .u64 u)) hC12 ?_
            iterate 3 (refine ord_pure rfl rfl rfl (fun K' hK => ?_); go_big_quiet_op; refine hK _ ?_; clear hK K')
            refine ord_load (t := 106) rfl rfl rfl (p := .pointer (some ⟨t, 1, none⟩)) (v := .pointer (some ⟨qq, 0, none⟩)) rfl (fun w' hC => load_one Tryz.underlying106 rfl hC.1) (fun K' hK => ?_)
            go_simp
            refine hK _ ?_
            clear hK K'
            iterate 3 (refine ord_pure rfl rfl rfl (fun K' hK => ?_); go_big_quiet_op; refine hK _ ?_; clear hK K')
            refine ord_load (t := 3) rfl rfl rfl (p := .pointer (some ⟨xp, 40, none⟩)) (v := .int .i64 xi) rfl (fun w' hC => load_one Tryz.underlying3 rfl hC.2.1) (fun K' hK => ?_)
            go_simp
            refine hK _ ?_
            clear hK K'
            iterate 1 (refine ord_pure rfl rfl rfl (fun K' hK => ?_); go_big_quiet_op; refine hK _ ?_; clear hK K')
            refine ord_load (t := 49) rfl rfl rfl (p := .pointer (some ⟨bf, 39, none⟩)) (v := .int .u64 u) rfl (fun w' hC => load_one Tryz.underlying49 rfl hC.2.2) (fun K' hK => ?_)
            go_simp
            refine hK _ ?_
            clear hK K'
            refine ord_seals rfl rfl (fun K' hK => ?_)
            go_simp
            refine (hmv).mono ?_
            rintro e w12 ⟨rfl, hS12⟩
            refine hK (fun _ => True) _ _ trivial ?_
            clear hK K'
            go_simp
            iterate 2 (refine ord_pure rfl rfl rfl (fun K' hK => ?_); go_big_quiet_op; refine hK _ ?_; clear hK K')
            refine ord_nil ?_
            go_wp2_with fail
            go_ret
            rw [HR.out, ← HSP.out]
            simp only [if_true, Bool.false_eq_true, if_false]
            rw [← HU.out]
            refine ⟨rfl, ?_⟩
            have h9 := hS12.to (by ac_rfl : _ = blk bf (.cells FE 149) • blk t (.cells #[.slice A R.length c, .pointer (some ⟨qq, 0, none⟩), .int .i64 next] 119) • arr 151 1 (.slice A R.length c) R.length (R.flatMap ptrC) • queue qq room (ents (noteR R xi ph u)) • blk xp (.cells (flC (⟨{ x.key with ph := ph }, xi, u⟩ : FIt)).toArray 153) • its (R.take k ++ R.drop (k + 1)) (blk xb (.cells QE 39) • F))
            have h10 := h9.drop
            have h11 : its (noteR R xi ph u) (blk xb (.cells QE 39) • F) = blk xp (.cells (flC (⟨{ x.key with ph := ph }, xi, u⟩ : FIt)).toArray 153) • its (R.take k ++ R.drop (k + 1)) (blk xb (.cells QE 39) • F) := by
              rw [HNS.out, its_set HX.out]
              subst hxp
              rfl
            rw [← h11, ← noteR_ptrs R xi ph u] at h10
            have h12 := Sat.fl_shut (R := noteR R xi ph u) (v := .slice A R.length c) (q := qq) HGN.out (by rw [noteR_length]; exact h10)
            exact h12.pull2.drop
    · have hr : seeR R q side flags now = (false, R) := by unfold seeR; rw [hf]; exact if_neg hsd
      rw [hr]
      have s0 : (side != 0) = true := by simp; omega
      have s1 : (side != 1) = true := by simp; omega
      clear hf hpt hr hrem hsd hx hxq hany
      generalize x.key.p = xp at *
      generalize q.enc.toArray = QE at *
      generalize hxb : w.heap.size = xb at *
      go_enter Tryz.func159, Tryz.ntmps159
      go_wp2_with (refine wpList_load_run (t := 39) rfl rfl rfl hl1 ?_)
      try rw [hxb]
      refine c1.mono ?_
      rintro e w1 ⟨rfl, hS1⟩
      go_wp2_with fail
      go_ret
      exact ⟨rfl, hS1.pull2.drop⟩
end
end Go.Proofs.YtdcekoocnoackaaGreatDoor

/-! Slices of whole numbers that came in. -/
namespace Go.Proofs.YtdcekoocnoackaaGreatDoor
open Go Go.RowKit

def IsRow (k : IntKind) (w : World) (a : Option Addr) (len cap : Nat) (zs : List Int) : Prop :=
  (a = none ∧ len = 0 ∧ cap = 0 ∧ zs = []) ∨
  ∃ x, a = some x ∧ len ≤ cap ∧ cap ≤ maxLen ∧ zs.length = cap ∧ (∀ i, i < zs.length → w.cell? (x.add i) = some (.int k (zs.getD i 0))) ∧ ∀ n ∈ zs, (Lit.int k n).wf = true

theorem IsRow.at_ {k : IntKind} {w : World} {a : Option Addr} {len cap : Nat} {zs : List Int} (h : IsRow k w a len cap zs) {i : Nat} (hi : i < len) :
    ∃ x, a = some x ∧ w.cell? (x.add i) = some (.int k (zs.getD i 0)) ∧ x.block < w.heap.size ∧ (Lit.int k (zs.getD i 0)).wf = true := by
  rcases h with ⟨_, rfl, _⟩ | ⟨x, rfl, h1, h2, h3, h4, h5⟩
  · omega
  · have hc := h4 i (by omega)
    refine ⟨x, rfl, hc, ?_, h5 _ ?_⟩
    · have := World.block_lt_of_cell? _ _ hc
      unfold Addr.add at this
      split at this <;> exact this
    · rw [List.getD_eq_getElem?_getD, List.getElem?_eq_getElem (by omega)]
      exact List.getElem_mem _

end Go.Proofs.YtdcekoocnoackaaGreatDoor

/-! ExpiryDue's walk. -/
namespace Go.Proofs.YtdcekoocnoackaaGreatDoor
open Go Go.RowKit

attribute [local irreducible] wpOrd
end Go.Proofs.YtdcekoocnoackaaGreatDoor

/-! ExpiryFull's walk. -/
namespace Go.Proofs.YtdcekoocnoackaaGreatDoor
open Go Go.RowKit

theorem mod_of (n k : Int) (h0 : 0 < k) (h1 : k ≤ 1000000) : ∃ m : Nat, (m : Int) < k ∧ wrap64 ((IntKind.u64.wrap n).tmod k) = m := by
  have hu : 0 ≤ IntKind.u64.wrap n := by simp only [IntKind.wrap, IntKind.bits, IntKind.signed]; simp; omega
  rw [Int.tmod_eq_emod_of_nonneg hu]
  have h2 := Int.emod_nonneg (IntKind.u64.wrap n) (by omega : k ≠ 0)
  have h3 := Int.emod_lt_of_pos (IntKind.u64.wrap n) h0
  refine ⟨(IntKind.u64.wrap n % k).toNat, by omega, ?_⟩
  rw [IntWalk.wrap64_in _ (by omega)]
  omega
def fz (a : Int) : List Int := List.replicate 50 a
attribute [local irreducible] wpOrd
end Go.Proofs.YtdcekoocnoackaaGreatDoor

/-! Ways of the statements of layer 26. -/
namespace Go.Proofs.YtdcekoocnoackaaGreatDoor
open Go Go.RowKit

def wayP (i : Int) : Int := if IntKind.u64.wrap i % 6 = 0 then 6 else if IntKind.u64.wrap i % 6 = 1 then 6 else if IntKind.u64.wrap i % 6 = 2 then 17 else if IntKind.u64.wrap i % 6 = 3 then 1 else if IntKind.u64.wrap i % 6 = 4 then 58 else 99
def wayS (i : Int) : Int := IntKind.u64.wrap i / 6 % 3
def tupP (p s : Int) : Tup := ⟨zAdr, zAdr, p, s, 0⟩
def wayT (i : Int) : Tup := tupP (wayP i) (wayS i)
end Go.Proofs.YtdcekoocnoackaaGreatDoor
