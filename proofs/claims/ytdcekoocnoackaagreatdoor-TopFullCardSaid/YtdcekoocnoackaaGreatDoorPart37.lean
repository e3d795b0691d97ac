import Derived.Test.YtdcekoocnoackaaGreatDoorPart36

/-! Flows: first, answers, closes, opening, open, see. -/
namespace Go.Proofs.YtdcekoocnoackaaGreatDoor
open Go Go.RowKit

attribute [local irreducible] wpOrd
def phOf (f : Flw) : Ph := ⟨f.st, f.fin⟩
def withPh (f : Flw) (p : Ph) : Flw := { f with st := p.st, fin := p.fin }
theorem withPh_self (f : Flw) : withPh f (phOf f) = f := rfl
theorem flw_set37 (f : Flw) (s : Int) : f.enc.toArray.setIfInBounds 37 (.int .i64 s) = (withPh f ⟨s, f.fin⟩).enc.toArray := by
  rw [List.setIfInBounds_toArray]
  congr 1
  unfold Flw.enc withPh
  rw [List.set_append_right _ _ (by rw [Tup.enc_length]; omega), Tup.enc_length]
  rfl
theorem flw_set38 (f : Flw) (s : Int) : f.enc.toArray.setIfInBounds 38 (.int .i64 s) = (withPh f ⟨f.st, s⟩).enc.toArray := by
  rw [List.setIfInBounds_toArray]
  congr 1
  unfold Flw.enc withPh
  rw [List.set_append_right _ _ (by rw [Tup.enc_length]; omega), Tup.enc_length]
  rfl
section
variable {B : Nat} {w0 w w' : World} {F : HP} {bf : Nat} {f : Flw}
theorem Sat.flw37 (h : Sat B w0 w (blk bf (.cells f.enc.toArray 149) • F)) : w.cell? ⟨bf, 37, none⟩ = some (.int .i64 f.st) := cell_heap h.heap (by simpa using f.at37 0)
theorem Sat.flw38 (h : Sat B w0 w (blk bf (.cells f.enc.toArray 149) • F)) : w.cell? ⟨bf, 38, none⟩ = some (.int .i64 f.fin) := cell_heap h.heap (by simpa using f.at37 1)
theorem Sat.flw34 (h : Sat B w0 w (blk bf (.cells f.enc.toArray 149) • F)) : w.cell? ⟨bf, 34, none⟩ = some (.int .i64 f.tup.proto) := cell_heap h.heap (by rw [List.getElem?_toArray, f.at0 34 (by decide)]; exact f.tup.at34 0)
theorem Sat.flw_st (h : Sat B w0 w (blk bf (.cells f.enc.toArray 149) • F)) (s : Int) : ∃ W, (Instr.storeAt 3 (.pointer (some ⟨bf, 37, none⟩)) (.int .i64 s)).run Tryz.prog w = .ok () W ∧ Sat B w0 W (blk bf (.cells (withPh f ⟨s, f.fin⟩).enc.toArray 149) • F) := by
  have := one_store (o := 37) (ty := 3) (u := .int .i64 s) h (by kernel_rfl) (by simp [Flw.enc_length]) rfl rfl
  rw [flw_set37] at this
  exact this
theorem Sat.flw_fin (h : Sat B w0 w (blk bf (.cells f.enc.toArray 149) • F)) (s : Int) : ∃ W, (Instr.storeAt 3 (.pointer (some ⟨bf, 38, none⟩)) (.int .i64 s)).run Tryz.prog w = .ok () W ∧ Sat B w0 W (blk bf (.cells (withPh f ⟨f.st, s⟩).enc.toArray 149) • F) := by
  have := one_store (o := 38) (ty := 3) (u := .int .i64 s) h (by kernel_rfl) (by simp [Flw.enc_length]) rfl rfl
  rw [flw_set38] at this
  exact this
theorem first_any (fl : Int) (w : World) : Calls Tryz.prog 304 #[.int .i64 fl] w fun e w' => e = .returned (.bool (firstF fl)) ∧ w = w' := by
  unfold firstF
  have c1 := has_any fl 2 w
  have c2 := has_any fl 17 w
  generalize hasF fl 2 = b1 at *
  generalize hasF fl 17 = b2 at *
  cases b1
  · go_enter Tryz.func304, Tryz.ntmps304
    go_wp2_with fail
    refine c1.mono ?_
    rintro e w1 ⟨rfl, rfl⟩
    go_wp2_with fail
    go_ret
    exact ⟨rfl, rfl⟩
  · go_enter Tryz.func304, Tryz.ntmps304
    go_wp2_with fail
    refine c1.mono ?_
    rintro e w1 ⟨rfl, rfl⟩
    go_wp2_with fail
    refine c2.mono ?_
    rintro e w1 ⟨rfl, rfl⟩
    cases b2 <;> (go_wp2_with fail; go_ret; exact ⟨rfl, rfl⟩)
theorem answers_any (fl : Int) (w : World) : Calls Tryz.prog 303 #[.int .i64 fl] w fun e w' => e = .returned (.bool (answersF fl)) ∧ w = w' := by
  unfold answersF
  have c1 := has_any fl 2 w
  have c2 := has_any fl 16 w
  have c3 := has_any fl 1 w
  generalize hasF fl 2 = b1 at *
  generalize hasF fl 16 = b2 at *
  generalize hasF fl 1 = b3 at *
  cases b1
  · go_enter Tryz.func303, Tryz.ntmps303
    go_wp2_with fail
    refine c1.mono ?_
    rintro e w1 ⟨rfl, rfl⟩
    go_wp2_with fail
    go_ret
    exact ⟨rfl, rfl⟩
  · cases b2
    · go_enter Tryz.func303, Tryz.ntmps303
      go_wp2_with fail
      refine c1.mono ?_
      rintro e w1 ⟨rfl, rfl⟩
      go_wp2_with fail
      refine c2.mono ?_
      rintro e w1 ⟨rfl, rfl⟩
      go_wp2_with fail
      go_ret
      exact ⟨rfl, rfl⟩
    · go_enter Tryz.func303, Tryz.ntmps303
      go_wp2_with fail
      refine c1.mono ?_
      rintro e w1 ⟨rfl, rfl⟩
      go_wp2_with fail
      refine c2.mono ?_
      rintro e w1 ⟨rfl, rfl⟩
      go_wp2_with fail
      refine c3.mono ?_
      rintro e w1 ⟨rfl, rfl⟩
      cases b3 <;> (go_wp2_with fail; go_ret; exact ⟨rfl, rfl⟩)
set_option maxRecDepth 8000 in
set_option maxHeartbeats 1000000 in
theorem closes_any (h : Sat B w0 w (blk bf (.cells f.enc.toArray 149) • F)) (side fl : Int) : Calls Tryz.prog 305 #[.pointer (some ⟨bf, 0, none⟩), .int .i64 side, .int .i64 fl] w fun e w' =>
    e = .returned (.tuple #[]) ∧ Sat B w0 w' (blk bf (.cells (withPh f (closesF (phOf f) side fl)).enc.toArray 149) • F) := by
  have c1 := has_any fl 1 w
  unfold closesF
  cases hb : hasF fl 1 with
  | false =>
    rw [hb] at c1
    rw [if_neg Bool.false_ne_true, withPh_self]
    have HS := Lib.hid h
    clear h hb
    go_enter Tryz.func305, Tryz.ntmps305
    go_wp2_with fail
    refine c1.mono ?_
    rintro e w1 ⟨rfl, rfl⟩
    go_wp2_with fail
    refine bodyPost_end (results_none (by rfl) _ _ _) (by rfl) ?_
    exact ⟨rfl, HS.out⟩
  | true =>
    rw [hb] at c1
    rw [if_pos rfl]
    obtain ⟨W1, hs1, hS1⟩ := h.flw_st 4
    obtain ⟨W2, hs2, hS2⟩ := hS1.flw_fin side
    have HS := Lib.hid hS2
    clear h hb hS1 hS2
    go_enter Tryz.func305, Tryz.ntmps305
    go_wp2_with fail
    refine c1.mono ?_
    rintro e w1 ⟨rfl, rfl⟩
    go_wp2_with (refine wpList_store_run (t := 3) rfl rfl rfl rfl hs1 (stop_ ?_))
    unfold Stop
    go_wp2_with (refine wpList_store_run (t := 3) rfl rfl rfl rfl hs2 (stop_ ?_))
    unfold Stop
    go_wp2_with fail
    go_end0
    exact ⟨rfl, HS.out⟩
set_option maxRecDepth 8000 in
set_option maxHeartbeats 4000000 in
theorem opening_any (h : Sat B w0 w (blk bf (.cells f.enc.toArray 149) • F)) (side fl : Int) : Calls Tryz.prog 272 #[.pointer (some ⟨bf, 0, none⟩), .int .i64 side, .int .i64 fl] w fun e w' =>
    e = .returned (.bool (openingF (phOf f) side fl).1) ∧ Sat B w0 w' (blk bf (.cells (withPh f (openingF (phOf f) side fl).2).enc.toArray 149) • F) := by
  have d37 := h.flw37
  unfold openingF
  by_cases hs : side = 1
  · subst hs
    rw [if_pos rfl]
    have c1 := answers_any fl w
    cases hb : answersF fl with
    | false =>
      rw [hb] at c1
      simp only [Bool.false_eq_true, if_false, withPh_self]
      have HS := Lib.hid h
      clear h hb d37
      go_enter Tryz.func272, Tryz.ntmps272
      go_wp2_with fail
      refine c1.mono ?_
      rintro e w1 ⟨rfl, rfl⟩
      go_wp2_with fail
      go_ret
      exact ⟨rfl, HS.out⟩
    | true =>
      rw [hb] at c1
      simp only [if_true]
      obtain ⟨W1, hs1, hS1⟩ := h.flw_st 2
      have HS := Lib.hid hS1
      clear h hb d37 hS1
      go_enter Tryz.func272, Tryz.ntmps272
      go_wp2_with fail
      refine c1.mono ?_
      rintro e w1 ⟨rfl, rfl⟩
      go_wp2_with (refine wpList_store_run (t := 3) rfl rfl rfl rfl hs1 (stop_ ?_))
      unfold Stop
      go_wp2_with fail
      go_ret
      exact ⟨rfl, HS.out⟩
  · have es : (side == 1) = false := by simpa using hs
    rw [if_neg hs]
    clear hs
    have c1 := first_any fl w
    cases hb : firstF fl with
    | true =>
      rw [hb] at c1
      simp only [if_true, withPh_self]
      have HS := Lib.hid h
      clear h hb d37
      go_enter Tryz.func272, Tryz.ntmps272
      go_wp2_with fail
      refine c1.mono ?_
      rintro e w1 ⟨rfl, rfl⟩
      go_wp2_with fail
      go_ret
      exact ⟨rfl, HS.out⟩
    | false =>
      rw [hb] at c1
      simp only [Bool.false_eq_true, if_false]
      by_cases ht : (phOf f).st = 1
      · rw [if_pos ht, withPh_self]
        rw [show f.st = 1 from ht] at d37
        have HS := Lib.hid h
        clear h hb ht
        go_enter Tryz.func272, Tryz.ntmps272
        go_wp2_with fail
        refine c1.mono ?_
        rintro e w1 ⟨rfl, rfl⟩
        go_wp2_with fail
        go_ret
        exact ⟨rfl, HS.out⟩
      · rw [if_neg ht]
        have et : (f.st == 1) = false := by simpa using (show ¬ f.st = 1 from ht)
        have c2 := has_any fl 2 w
        have c3 := has_any fl 16 w
        have HH := Lib.hid h
        generalize f.st = s at *
        clear ht hb h
        cases hb2 : hasF fl 2 with
        | true =>
          rw [hb2] at c2
          simp only [if_true, withPh_self]
          clear c3 hb2
          go_enter Tryz.func272, Tryz.ntmps272
          go_wp2_with fail
          refine c1.mono ?_
          rintro e w1 ⟨rfl, rfl⟩
          go_wp2_with fail
          refine c2.mono ?_
          rintro e w1 ⟨rfl, rfl⟩
          go_wp2_with fail
          go_ret
          exact ⟨rfl, HH.out⟩
        | false =>
          rw [hb2] at c2
          simp only [Bool.false_eq_true, if_false]
          cases hb3 : hasF fl 16 with
          | false =>
            rw [hb3] at c3
            simp only [Bool.false_eq_true, if_false, withPh_self]
            clear hb2 hb3
            go_enter Tryz.func272, Tryz.ntmps272
            go_wp2_with fail
            refine c1.mono ?_
            rintro e w1 ⟨rfl, rfl⟩
            go_wp2_with fail
            refine c2.mono ?_
            rintro e w1 ⟨rfl, rfl⟩
            go_wp2_with fail
            refine c3.mono ?_
            rintro e w1 ⟨rfl, rfl⟩
            go_wp2_with fail
            go_ret
            exact ⟨rfl, HH.out⟩
          | true =>
            rw [hb3] at c3
            simp only [if_true]
            obtain ⟨W1, hs1, hS1⟩ := HH.out.flw_st 3
            have c4 := closes_any hS1 side fl
            clear hb2 hb3 hS1
            go_enter Tryz.func272, Tryz.ntmps272
            go_wp2_with fail
            refine c1.mono ?_
            rintro e w1 ⟨rfl, rfl⟩
            go_wp2_with fail
            refine c2.mono ?_
            rintro e w1 ⟨rfl, rfl⟩
            go_wp2_with fail
            refine c3.mono ?_
            rintro e w1 ⟨rfl, rfl⟩
            go_wp2_with (refine wpList_store_run (t := 3) rfl rfl rfl rfl hs1 (stop_ ?_))
            unfold Stop
            go_wp2_with fail
            refine c4.mono ?_
            rintro e w2 ⟨rfl, hS2⟩
            have HS := Lib.hid hS2
            clear hS2 c4
            go_wp2_with fail
            go_ret
            exact ⟨rfl, HS.out⟩
set_option maxRecDepth 8000 in
set_option maxHeartbeats 8000000 in
theorem open_any (h : Sat B w0 w (blk bf (.cells f.enc.toArray 149) • F)) (side fl : Int) : Calls Tryz.prog 273 #[.pointer (some ⟨bf, 0, none⟩), .int .i64 side, .int .i64 fl] w fun e w' =>
    e = .returned (.tuple #[.bool (openF (phOf f) side fl).1, .bool (openF (phOf f) side fl).2.1]) ∧ Sat B w0 w' (blk bf (.cells (withPh f (openF (phOf f) side fl).2.2).enc.toArray 149) • F) := by
  have d37 := h.flw37
  have d38 := h.flw38
  have c1 := has_any fl 2 w
  unfold openF
  cases hb : hasF fl 2 with
  | true =>
    rw [hb] at c1
    simp only [if_true, withPh_self]
    have HS := Lib.hid h
    clear h hb d37 d38
    go_enter Tryz.func273, Tryz.ntmps273
    go_wp2_with fail
    refine c1.mono ?_
    rintro e w1 ⟨rfl, rfl⟩
    go_wp2_with fail
    go_ret2
    exact ⟨rfl, HS.out⟩
  | false =>
    rw [hb] at c1
    simp only [Bool.false_eq_true, if_false]
    clear hb
    by_cases h3 : (phOf f).st = 3
    · rw [if_pos h3]
      rw [show f.st = 3 from h3] at d37
      have c2 := closes_any h side fl
      clear h h3 d38
      go_enter Tryz.func273, Tryz.ntmps273
      go_wp2_with fail
      refine c1.mono ?_
      rintro e w1 ⟨rfl, rfl⟩
      go_wp2_with fail
      refine c2.mono ?_
      rintro e w2 ⟨rfl, hS2⟩
      have HS := Lib.hid hS2
      clear hS2 c2
      go_wp2_with fail
      go_ret2
      exact ⟨rfl, HS.out⟩
    · rw [if_neg h3]
      have e3 : (f.st == 3) = false := by simpa using (show ¬ f.st = 3 from h3)
      by_cases h4 : (phOf f).st = 4
      · rw [show f.st = 4 from h4] at d37
        have c2 := has_any fl 1 w
        cases hb2 : hasF fl 1 with
        | false =>
          rw [hb2] at c2
          rw [if_neg (fun hc => Bool.false_ne_true hc.2.1), if_neg (by rw [h4]; decide), withPh_self]
          have HS := Lib.hid h
          clear h h3 h4 e3 hb2 d38
          go_enter Tryz.func273, Tryz.ntmps273
          go_wp2_with fail
          refine c1.mono ?_
          rintro e w1 ⟨rfl, rfl⟩
          go_wp2_with fail
          refine c2.mono ?_
          rintro e w1 ⟨rfl, rfl⟩
          go_wp2_with fail
          go_ret2
          exact ⟨rfl, HS.out⟩
        | true =>
          rw [hb2] at c2
          by_cases hsd : side = (phOf f).fin
          · rw [if_neg (fun hc => hc.2.2 hsd), if_neg (by rw [h4]; decide), withPh_self]
            have esd : (side != f.fin) = false := by simpa using (show side = f.fin from hsd)
            have HS := Lib.hid h
            generalize f.fin = fi at *
            clear h h3 h4 e3 hb2 hsd
            go_enter Tryz.func273, Tryz.ntmps273
            go_wp2_with fail
            refine c1.mono ?_
            rintro e w1 ⟨rfl, rfl⟩
            go_wp2_with fail
            refine c2.mono ?_
            rintro e w1 ⟨rfl, rfl⟩
            go_wp2_with fail
            go_ret2
            exact ⟨rfl, HS.out⟩
          · rw [if_pos ⟨h4, rfl, hsd⟩]
            have esd : (side != f.fin) = true := by simpa using (show ¬ side = f.fin from hsd)
            obtain ⟨W1, hs1, hS1⟩ := h.flw_st 5
            have HS := Lib.hid hS1
            clear h h3 h4 e3 hb2 hsd hS1
            go_enter Tryz.func273, Tryz.ntmps273
            go_wp2_with fail
            refine c1.mono ?_
            rintro e w1 ⟨rfl, rfl⟩
            go_wp2_with fail
            refine c2.mono ?_
            rintro e w1 ⟨rfl, rfl⟩
            go_wp2_with (refine wpList_store_run (t := 3) rfl rfl rfl rfl hs1 (stop_ ?_))
            unfold Stop
            go_wp2_with fail
            go_ret2
            exact ⟨rfl, HS.out⟩
      · rw [if_neg (fun hc => h4 hc.1)]
        have e4 : (f.st == 4) = false := by simpa using (show ¬ f.st = 4 from h4)
        by_cases h5 : (phOf f).st = 5
        · rw [if_pos h5, withPh_self]
          rw [show f.st = 5 from h5] at d37
          have HS := Lib.hid h
          have HH := Lib.hid h.drew
          clear h h3 h4 h5 e3 e4
          cases hb2 : hasF fl 16 with
          | false =>
            have c2 : ∀ w, Calls Tryz.prog _ _ w _ := fun w => has_any fl 16 w
            rw [hb2] at c2
            clear hb2
            go_enter Tryz.func273, Tryz.ntmps273
            go_wp2_with fail
            refine c1.mono ?_
            rintro e w1 ⟨rfl, rfl⟩
            go_wp2_with fail
            try go_frame
            refine wp_region_ord [(0, .pure), (1, .acts), (2, .pure), (3, .pure), (4, .acts), (5, .pure), (6, .pure), (7, .pure), (8, .pure), (9, .pure), (10, .pure), (11, .pure), (12, .quiet), (13, .pure), (14, .pure), (15, .pure), (16, .pure)] (by kernel_rfl) (by kernel_rfl)
              (fun w' => ∀ p, w'.cell? p = w.cell? p) (fun _ => rfl) ?_
            iterate 1 (refine ord_pure rfl rfl rfl (fun K' hK => ?_); go_big_quiet_op; refine hK _ ?_; clear hK K')
            refine ord_acts rfl rfl (fun K' hK => ?_)
            go_simp
            refine (c2 _).mono ?_
            rintro e w2 ⟨rfl, rfl⟩
            refine hK _ _ (fun _ => rfl) ?_
            clear hK K'
            go_simp
            iterate 1 (refine ord_pure rfl rfl rfl (fun K' hK => ?_); go_big_quiet_op; refine hK _ ?_; clear hK K')
            iterate 3 (refine ord_skip' rfl rfl (fun K' hK => ?_); go_simp; refine hK _ ?_; clear hK K')
            iterate 2 (refine ord_pure rfl rfl rfl (fun K' hK => ?_); go_big_quiet_op; refine hK _ ?_; clear hK K')
            iterate 6 (refine ord_skip' rfl rfl (fun K' hK => ?_); go_simp; refine hK _ ?_; clear hK K')
            iterate 3 (refine ord_pure rfl rfl rfl (fun K' hK => ?_); go_big_quiet_op; refine hK _ ?_; clear hK K')
            refine ord_nil ?_
            go_wp2_with fail
            go_ret2
            exact ⟨rfl, HH.out⟩
          | true =>
            have c2 : ∀ w, Calls Tryz.prog _ _ w _ := fun w => has_any fl 16 w
            rw [hb2] at c2
            clear hb2
            cases hb3 : hasF fl 1 with
            | true =>
              have c3 : ∀ w, Calls Tryz.prog _ _ w _ := fun w => has_any fl 1 w
              rw [hb3] at c3
              clear hb3
              go_enter Tryz.func273, Tryz.ntmps273
              go_wp2_with fail
              refine c1.mono ?_
              rintro e w1 ⟨rfl, rfl⟩
              go_wp2_with fail
              try go_frame
              refine wp_region_ord [(0, .pure), (1, .acts), (2, .pure), (3, .pure), (4, .acts), (5, .pure), (6, .pure), (7, .pure), (8, .pure), (9, .pure), (10, .pure), (11, .pure), (12, .quiet), (13, .pure), (14, .pure), (15, .pure), (16, .pure)] (by kernel_rfl) (by kernel_rfl)
                (fun w' => ∀ p, w'.cell? p = w.cell? p) (fun _ => rfl) ?_
              iterate 1 (refine ord_pure rfl rfl rfl (fun K' hK => ?_); go_big_quiet_op; refine hK _ ?_; clear hK K')
              refine ord_acts rfl rfl (fun K' hK => ?_)
              go_simp
              refine (c2 _).mono ?_
              rintro e w2 ⟨rfl, rfl⟩
              refine hK _ _ (fun _ => rfl) ?_
              clear hK K'
              go_simp
              iterate 2 (refine ord_pure rfl rfl rfl (fun K' hK => ?_); go_big_quiet_op; refine hK _ ?_; clear hK K')
              refine ord_acts rfl rfl (fun K' hK => ?_)
              go_simp
              refine (c3 _).mono ?_
              rintro e w3 ⟨rfl, rfl⟩
              refine hK _ _ (fun _ => rfl) ?_
              clear hK K'
              go_simp
              iterate 3 (refine ord_pure rfl rfl rfl (fun K' hK => ?_); go_big_quiet_op; refine hK _ ?_; clear hK K')
              iterate 6 (refine ord_skip' rfl rfl (fun K' hK => ?_); go_simp; refine hK _ ?_; clear hK K')
              iterate 3 (refine ord_pure rfl rfl rfl (fun K' hK => ?_); go_big_quiet_op; refine hK _ ?_; clear hK K')
              refine ord_nil ?_
              go_wp2_with fail
              go_ret2
              exact ⟨rfl, HH.out⟩
            | false =>
              have c3 : ∀ w, Calls Tryz.prog _ _ w _ := fun w => has_any fl 1 w
              rw [hb3] at c3
              clear hb3
              have hdec : (side == f.fin) = decide (side = (phOf f).fin) := by
                rw [Bool.eq_iff_iff, beq_iff_eq, decide_eq_true_eq]; exact Iff.rfl
              rw [← hdec]
              have d38d : w.drew.cell? ⟨bf, 38, none⟩ = some (.int .i64 f.fin) := d38
              generalize f.fin = fi at *
              clear hdec
              go_enter Tryz.func273, Tryz.ntmps273
              go_wp2_with fail
              refine c1.mono ?_
              rintro e w1 ⟨rfl, rfl⟩
              go_wp2_with fail
              try go_frame
              refine wp_region_ord [(0, .pure), (1, .acts), (2, .pure), (3, .pure), (4, .acts), (5, .pure), (6, .pure), (7, .pure), (8, .pure), (9, .pure), (10, .pure), (11, .pure), (12, .quiet), (13, .pure), (14, .pure), (15, .pure), (16, .pure)] (by kernel_rfl) (by kernel_rfl)
                (fun w' => ∀ p, w'.cell? p = w.cell? p) (fun _ => rfl) ?_
              iterate 1 (refine ord_pure rfl rfl rfl (fun K' hK => ?_); go_big_quiet_op; refine hK _ ?_; clear hK K')
              refine ord_acts rfl rfl (fun K' hK => ?_)
              go_simp
              refine (c2 _).mono ?_
              rintro e w2 ⟨rfl, rfl⟩
              refine hK _ _ (fun _ => rfl) ?_
              clear hK K'
              go_simp
              iterate 2 (refine ord_pure rfl rfl rfl (fun K' hK => ?_); go_big_quiet_op; refine hK _ ?_; clear hK K')
              refine ord_acts rfl rfl (fun K' hK => ?_)
              go_simp
              refine (c3 _).mono ?_
              rintro e w3 ⟨rfl, rfl⟩
              refine hK _ _ (fun _ => rfl) ?_
              clear hK K'
              go_simp
              iterate 7 (refine ord_pure rfl rfl rfl (fun K' hK => ?_); go_big_quiet_op; refine hK _ ?_; clear hK K')
              refine ord_load (t := 3) rfl rfl rfl (p := .pointer (some ⟨bf, 38, none⟩)) (v := .int .i64 fi) rfl (fun w' hC => load_one Tryz.underlying3 rfl (by rw [hC]; exact d38)) (fun K' hK => ?_)
              go_simp
              refine hK _ ?_
              clear hK K'
              iterate 4 (refine ord_pure rfl rfl rfl (fun K' hK => ?_); go_big_quiet_op; refine hK _ ?_; clear hK K')
              refine ord_nil ?_
              go_wp2_with fail
              go_ret2
              exact ⟨rfl, HH.out⟩
        · rw [if_neg h5, withPh_self]
          have e5 : (f.st == 5) = false := by simpa using (show ¬ f.st = 5 from h5)
          have HS := Lib.hid h
          generalize f.st = s at *
          clear h h3 h4 h5
          go_enter Tryz.func273, Tryz.ntmps273
          go_wp2_with fail
          refine c1.mono ?_
          rintro e w1 ⟨rfl, rfl⟩
          go_wp2_with fail
          go_ret2
          exact ⟨rfl, HS.out⟩
set_option maxRecDepth 8000 in
set_option maxHeartbeats 8000000 in
theorem see_any (h : Sat B w0 w (blk bf (.cells f.enc.toArray 149) • F)) (side fl : Int) : Calls Tryz.prog 228 #[.pointer (some ⟨bf, 0, none⟩), .int .i64 side, .int .i64 fl] w fun e w' =>
    e = .returned (.tuple #[.bool (seeF f.tup.proto (phOf f) side fl).1, .bool (seeF f.tup.proto (phOf f) side fl).2.1]) ∧ Sat B w0 w' (blk bf (.cells (withPh f (seeF f.tup.proto (phOf f) side fl).2.2).enc.toArray 149) • F) := by
  have d37 := h.flw37
  have d34 := h.flw34
  unfold seeF
  by_cases h6 : f.tup.proto = 6
  · rw [if_pos h6]
    rw [h6] at d34
    have c1 := has_any fl 4 w
    cases hb : hasF fl 4 with
    | true =>
      rw [hb] at c1
      simp only [if_true]
      clear hb
      by_cases h1 : (phOf f).st = 1
      · rw [show f.st = 1 from h1] at d37
        by_cases h0 : side = 0
        · subst h0
          rw [if_pos (.inr (.inl rfl)), withPh_self]
          have HS := Lib.hid h
          clear h h1 h6
          go_enter Tryz.func228, Tryz.ntmps228
          go_wp2_with fail
          refine c1.mono ?_
          rintro e w1 ⟨rfl, rfl⟩
          go_wp2_with fail
          go_ret2
          exact ⟨rfl, HS.out⟩
        · have e0 : (side == 0) = false := by simpa using h0
          have c2 := has_any fl 16 w
          cases hb2 : hasF fl 16 with
          | true =>
            rw [hb2] at c2
            rw [if_pos (.inr (.inr rfl)), withPh_self]
            have HS := Lib.hid h
            clear h h1 h6 h0 hb2
            go_enter Tryz.func228, Tryz.ntmps228
            go_wp2_with fail
            refine c1.mono ?_
            rintro e w1 ⟨rfl, rfl⟩
            go_wp2_with fail
            refine c2.mono ?_
            rintro e w1 ⟨rfl, rfl⟩
            go_wp2_with fail
            go_ret2
            exact ⟨rfl, HS.out⟩
          | false =>
            rw [hb2] at c2
            rw [if_neg (by rintro (hc | hc | hc); exact hc h1; exact h0 hc; exact Bool.false_ne_true hc), withPh_self]
            have HS := Lib.hid h
            clear h h1 h6 h0 hb2
            go_enter Tryz.func228, Tryz.ntmps228
            go_wp2_with fail
            refine c1.mono ?_
            rintro e w1 ⟨rfl, rfl⟩
            go_wp2_with fail
            refine c2.mono ?_
            rintro e w1 ⟨rfl, rfl⟩
            go_wp2_with fail
            go_ret2
            exact ⟨rfl, HS.out⟩
      · have n1 : (f.st != 1) = true := by simpa using (show ¬ f.st = 1 from h1)
        rw [if_pos (.inl h1), withPh_self]
        have HS := Lib.hid h
        generalize f.st = s at *
        clear h h1 h6
        go_enter Tryz.func228, Tryz.ntmps228
        go_wp2_with fail
        refine c1.mono ?_
        rintro e w1 ⟨rfl, rfl⟩
        go_wp2_with fail
        go_ret2
        exact ⟨rfl, HS.out⟩
    | false =>
      rw [hb] at c1
      simp only [Bool.false_eq_true, if_false]
      clear hb
      by_cases h1 : (phOf f).st = 1
      · rw [if_pos (.inl h1)]
        rw [show f.st = 1 from h1] at d37
        have c2 := opening_any h side fl
        clear h h1 h6
        go_enter Tryz.func228, Tryz.ntmps228
        go_wp2_with fail
        refine c1.mono ?_
        rintro e w1 ⟨rfl, rfl⟩
        go_wp2_with fail
        refine c2.mono ?_
        rintro e w2 ⟨rfl, hS2⟩
        have HS := Lib.hid hS2
        clear hS2 c2
        go_wp2_with fail
        go_ret2
        exact ⟨rfl, HS.out⟩
      · have e1 : (f.st == 1) = false := by simpa using (show ¬ f.st = 1 from h1)
        by_cases h2 : (phOf f).st = 2
        · rw [if_pos (.inr h2)]
          rw [show f.st = 2 from h2] at d37
          have c2 := opening_any h side fl
          clear h h1 h2 h6 e1
          go_enter Tryz.func228, Tryz.ntmps228
          go_wp2_with fail
          refine c1.mono ?_
          rintro e w1 ⟨rfl, rfl⟩
          go_wp2_with fail
          refine c2.mono ?_
          rintro e w2 ⟨rfl, hS2⟩
          have HS := Lib.hid hS2
          clear hS2 c2
          go_wp2_with fail
          go_ret2
          exact ⟨rfl, HS.out⟩
        · rw [if_neg (by rintro (hc | hc); exact h1 hc; exact h2 hc)]
          have e2 : (f.st == 2) = false := by simpa using (show ¬ f.st = 2 from h2)
          have c2 := open_any h side fl
          generalize f.st = s at *
          clear h h1 h2 h6
          go_enter Tryz.func228, Tryz.ntmps228
          go_wp2_with fail
          refine c1.mono ?_
          rintro e w1 ⟨rfl, rfl⟩
          go_wp2_with fail
          refine c2.mono ?_
          rintro e w2 ⟨rfl, hS2⟩
          have HS := Lib.hid hS2
          clear hS2 c2
          go_wp2_with fail
          go_ret2
          exact ⟨rfl, HS.out⟩
  · rw [if_neg h6]
    have n6 : (f.tup.proto != 6) = true := by simpa using h6
    by_cases h1 : side = 1
    · subst h1
      rw [if_pos rfl]
      obtain ⟨W1, hs1, hS1⟩ := h.flw_st 7
      have HS := Lib.hid hS1
      generalize f.tup.proto = p at *
      clear h h6 hS1
      go_enter Tryz.func228, Tryz.ntmps228
      go_wp2_with (refine wpList_store_run (t := 3) rfl rfl rfl rfl hs1 (stop_ ?_))
      unfold Stop
      go_wp2_with fail
      go_ret2
      exact ⟨rfl, HS.out⟩
    · have e1 : (side == 1) = false := by simpa using h1
      rw [if_neg h1, withPh_self]
      have HS := Lib.hid h
      generalize f.tup.proto = p at *
      clear h h6 h1
      go_enter Tryz.func228, Tryz.ntmps228
      go_wp2_with fail
      go_ret2
      exact ⟨rfl, HS.out⟩
end
end Go.Proofs.YtdcekoocnoackaaGreatDoor
