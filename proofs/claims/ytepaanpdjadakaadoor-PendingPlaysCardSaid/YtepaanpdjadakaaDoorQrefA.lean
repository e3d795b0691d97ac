import Derived.Test.YtepaanpdjadakaaDoorQrefP
import Derived.Test.YtepaanpdjadakaaDoorFork
/-! The reference's pending queries: Add. -/
namespace Go.Proofs.YtepaanpdjadakaaDoor
open Go Go.RowKit

attribute [local irreducible] wpOrd wpTree
section
variable {B : Nat} {w0 w w' : World} {F : HP} {b : Nat} {n : Int} {R : List (Itm Qry)} {v u : Value}
set_option maxRecDepth 8000 in
set_option maxHeartbeats 16000000 in
theorem qAdd_any (h : Sat B w0 w (qref b n R • F)) (hl : R.length ≤ 1000) (hn : KN R) (next : Int) (q : Qry) (u : Int) :
    Calls Tryd.prog 54 #[.pointer (some ⟨b, 0, none⟩), .agg q.enc.toArray, .int .u64 u] w fun e w' => e = .returned (failV (addC (roomOf n) R q)) ∧ Sat B w0 w' (qref b n (addR (roomOf n) R next q u) • F) := by
  have hx := (h.alloc (.cells q.enc.toArray 67)).alloc (.cells zeroFail 46)
  rw [World.size_alloc] at hx
  have c1 := qPlace_any hx.pull3 hl q
  have hpl := plc_any (isQ q) R
  have hlq : ∀ W, W.heap[w.heap.size]? = some (.cells q.enc.toArray 67) → (Instr.loadAt 67 (.pointer (some ⟨w.heap.size, 0, none⟩))).run Tryd.prog W = .ok (.agg q.enc.toArray) W :=
    fun W h => run_loadAt_row h Tryd.underlying67 rfl (by rw [Qry.enc_length]; kernel_rfl) (fun j u hu => by simpa using hu)
  have hl1 := hlq _ hx.pull2.heap
  have HLQ := Lib.hid hlq
  have HPP := Lib.hid fun (A A' : Option Addr) (c c' : Nat) => qadd_parts (B := B) (w0 := w0) (b := b) (n := n) hl q u (A := A) (A' := A') (c := c) (c' := c') (x0 := w.heap.size)
  obtain ⟨zq, hz1, hz2, hz3⟩ := qry_zero
  have HQS : Hid ((Value.agg q.enc.toArray).cells.size = 40) := Lib.hid (by simp [Value.cells, Qry.enc_length])
  have HLL := Lib.hid hl
  unfold zeroFail at hx c1
  clear hlq hz1 hz3
  rcases plc_cases (isQ q) R with ⟨h1, h2⟩ | ⟨k, x, h1, h2, h3, _⟩
  · have ha : R.any (isQ q) = false := by
      cases hc : R.any (isQ q) with
      | true => rw [h1] at hpl; exact absurd (hpl.2 hc) (by decide)
      | false => rfl
    rw [h1] at c1
    unfold addC addR
    rw [ha]
    simp only [Bool.false_eq_true, if_false]
    by_cases hf : roomOf n ≤ R.length
    · rw [if_pos hf, if_pos hf]
      have hf1 : decide (roomOf n ≤ R.length) = true := decide_eq_true hf
      clear h h1 h2 hpl ha hf HPP hz2
      generalize q.enc.toArray = Q0 at *
      go_enter Tryd.func54, Tryd.ntmps54
      go_wp2_with (refine wpList_load_run (t := 67) rfl rfl rfl hl1 ?_)
      refine c1.mono ?_
      rintro e w1 ⟨rfl, hS1⟩
      clear c1 hl1 hx
      obtain ⟨A, c, A', c', hS2⟩ := hS1.qref_open
      have d1 : w1.cell? ⟨b, 1, none⟩ = some (.slice A R.length c) := cell_heap hS2.heap rfl
      have d0 : w1.cell? ⟨b, 0, none⟩ = some (.int .i64 n) := cell_heap hS2.heap rfl
      have hS3 := hS1.pull2.drew
      clear hS2 hS1
      go_wp2_with fail
      try go_frame
      refine wp_region_ord [(0, .pure), (1, .pure), (2, .pure), (3, .quiet), (4, .pure), (5, .pure), (6, .pure), (7, .pure), (8, .quiet), (9, .acts), (10, .pure)] (by kernel_rfl) (by kernel_rfl)
        (fun w' => ∀ p, w'.cell? p = w1.cell? p) (fun _ => rfl) ?_
      iterate 3 (refine ord_pure rfl rfl rfl (fun K' hK => ?_); go_big_quiet_op; refine hK _ ?_; clear hK K')
      refine ord_load (t := 77) rfl rfl rfl (p := .pointer (some ⟨b, 1, none⟩)) (v := .slice A R.length c) rfl (fun w' hC => load_one Tryd.underlying77 rfl (by rw [hC]; exact d1)) (fun K' hK => ?_)
      go_simp
      refine hK _ ?_
      clear hK K'
      iterate 4 (refine ord_pure rfl rfl rfl (fun K' hK => ?_); go_big_quiet_op; refine hK _ ?_; clear hK K')
      refine ord_load (t := 3) rfl rfl rfl (p := .pointer (some ⟨b, 0, none⟩)) (v := .int .i64 n) rfl (fun w' hC => load_one Tryd.underlying3 rfl (by rw [hC]; exact d0)) (fun K' hK => ?_)
      go_simp
      refine hK _ ?_
      clear hK K'
      refine ord_acts rfl rfl (fun K' hK => ?_)
      go_simp
      refine (held_any n _).mono ?_
      rintro e w2 ⟨rfl, rfl⟩
      refine hK _ _ (fun _ => rfl) ?_
      clear hK K'
      go_simp
      iterate 1 (refine ord_pure rfl rfl rfl (fun K' hK => ?_); go_big_quiet_op; refine hK _ ?_; clear hK K')
      refine ord_nil ?_
      go_wp2_with fail
      refine (bare_any 18 _).mono ?_
      rintro e w8 ⟨rfl, hb8⟩
      obtain ⟨W9, hst, hS9⟩ := fail_store (c := 18) (hS3.below_ hb8) rfl
      have hld := fail_load hS9
      have HS9 := Lib.hid hS9
      clear hS9
      go_wp2_with (refine wpList_store_run (t := 46) rfl rfl rfl rfl hst ?_)
      refine ret_cell rfl rfl hld rfl ?_
      exact ⟨rfl, HS9.out.drop.pull2.drop⟩
    · rw [if_neg hf, if_neg hf]
      have hf1 : decide (roomOf n ≤ R.length) = false := decide_eq_false hf
      clear h h1 h2 hpl ha hf
      generalize q.enc.toArray = Q0 at *
      go_enter Tryd.func54, Tryd.ntmps54
      go_wp2_with (refine wpList_load_run (t := 67) rfl rfl rfl hl1 ?_)
      refine c1.mono ?_
      rintro e w1 ⟨rfl, hS1⟩
      clear c1 hl1 hx
      obtain ⟨A, c, A', c', hS2⟩ := hS1.qref_open
      have d1 : w1.cell? ⟨b, 1, none⟩ = some (.slice A R.length c) := cell_heap hS2.heap rfl
      have d0 : w1.cell? ⟨b, 0, none⟩ = some (.int .i64 n) := cell_heap hS2.heap rfl
      clear hS1
      go_wp2_with fail
      try go_frame
      refine wp_region_ord [(0, .pure), (1, .pure), (2, .pure), (3, .quiet), (4, .pure), (5, .pure), (6, .pure), (7, .pure), (8, .quiet), (9, .acts), (10, .pure)] (by kernel_rfl) (by kernel_rfl)
        (fun w' => ∀ p, w'.cell? p = w1.cell? p) (fun _ => rfl) ?_
      iterate 3 (refine ord_pure rfl rfl rfl (fun K' hK => ?_); go_big_quiet_op; refine hK _ ?_; clear hK K')
      refine ord_load (t := 77) rfl rfl rfl (p := .pointer (some ⟨b, 1, none⟩)) (v := .slice A R.length c) rfl (fun w' hC => load_one Tryd.underlying77 rfl (by rw [hC]; exact d1)) (fun K' hK => ?_)
      go_simp
      refine hK _ ?_
      clear hK K'
      iterate 4 (refine ord_pure rfl rfl rfl (fun K' hK => ?_); go_big_quiet_op; refine hK _ ?_; clear hK K')
      refine ord_load (t := 3) rfl rfl rfl (p := .pointer (some ⟨b, 0, none⟩)) (v := .int .i64 n) rfl (fun w' hC => load_one Tryd.underlying3 rfl (by rw [hC]; exact d0)) (fun K' hK => ?_)
      go_simp
      refine hK _ ?_
      clear hK K'
      refine ord_acts rfl rfl (fun K' hK => ?_)
      go_simp
      refine (held_any n _).mono ?_
      rintro e w2 ⟨rfl, rfl⟩
      refine hK _ _ (fun _ => rfl) ?_
      clear hK K'
      go_simp
      iterate 1 (refine ord_pure rfl rfl rfl (fun K' hK => ?_); go_big_quiet_op; refine hK _ ?_; clear hK K')
      refine ord_nil ?_
      obtain ⟨PB, PX, PL, PU, P6, P9, P14, P17, P8, P16, PB1, PB2, h0, h6, h8, h9, h14, h16, h17, hc, h20, h23, hend⟩ := HPP.out A A' c c'
      have H6 := Lib.hid h6
      have H8 := Lib.hid h8
      have H9 := Lib.hid h9
      have H14 := Lib.hid h14
      have H16 := Lib.hid h16
      have H17 := Lib.hid h17
      have HC := Lib.hid hc
      have H20 := Lib.hid h20
      have H23 := Lib.hid h23
      have HEND := Lib.hid hend
      obtain ⟨FX, hFX⟩ : ∃ FX : HP, FX = blk (w.heap.size + 1) (.cells #[.int .i64 0, .int .i64 0, .bool false] 46) • F := ⟨_, rfl⟩
      have hS := h0 _ _ (hS2.drew.drew.to (by rw [hFX]; ac_rfl : _ = blk b (.cells #[.int .i64 n, .slice A R.length c, .slice A' R.length c'] 86) • blk w.heap.size (.cells Q0 67) • arr 67 40 (.slice A R.length c) R.length (R.flatMap keyC) • arr 23 1 (.slice A' R.length c') R.length (R.flatMap dueC) • FX))
      have hC0 := hc _ _ hS
      clear h0 h6 h8 h9 h14 h16 h17 hc h20 h23 hend HPP hS2 d1 d0
      generalize w1.drew = wd at *
      go_wp2_with fail
      try go_frame
      refine wp_region_tree (.three [(0, .pure), (1, .pure), (2, .pure), (3, .pure), (4, .pure), (5, .quiet), (7, .quiet), (10, .pure), (11, .pure), (12, .pure), (13, .quiet), (15, .pure)] 6 (.two [] 8 (.two [] 9 (.two [] 14 (.leaf [(16, .acts), (17, .seals), (18, .pure), (19, .pure), (20, .seals), (21, .pure), (22, .pure), (23, .seals)]) 16 (.leaf [(14, .acts), (17, .seals), (18, .pure), (19, .pure), (20, .seals), (21, .pure), (22, .pure), (23, .seals)])) 16 (.leaf [(9, .acts), (14, .acts), (17, .seals), (18, .pure), (19, .pure), (20, .seals), (21, .pure), (22, .pure), (23, .seals)])) 16 (.leaf [(8, .acts), (9, .acts), (14, .acts), (17, .seals), (18, .pure), (19, .pure), (20, .seals), (21, .pure), (22, .pure), (23, .seals)])) 8 (.two [] 6 (.two [] 9 (.two [] 14 (.leaf [(16, .acts), (17, .seals), (18, .pure), (19, .pure), (20, .seals), (21, .pure), (22, .pure), (23, .seals)]) 16 (.leaf [(14, .acts), (17, .seals), (18, .pure), (19, .pure), (20, .seals), (21, .pure), (22, .pure), (23, .seals)])) 16 (.leaf [(9, .acts), (14, .acts), (17, .seals), (18, .pure), (19, .pure), (20, .seals), (21, .pure), (22, .pure), (23, .seals)])) 16 (.leaf [(6, .acts), (9, .acts), (14, .acts), (17, .seals), (18, .pure), (19, .pure), (20, .seals), (21, .pure), (22, .pure), (23, .seals)])) 16 (.two [] 6 (.leaf [(8, .acts), (9, .acts), (14, .acts), (17, .seals), (18, .pure), (19, .pure), (20, .seals), (21, .pure), (22, .pure), (23, .seals)]) 8 (.leaf [(6, .acts), (9, .acts), (14, .acts), (17, .seals), (18, .pure), (19, .pure), (20, .seals), (21, .pure), (22, .pure), (23, .seals)]))) [17, 20, 23] (by kernel_rfl) (by kernel_rfl) (fun w' => w'.cell? ⟨b, 1, none⟩ = some (.slice A R.length c) ∧ w'.cell? ⟨b, 2, none⟩ = some (.slice A' R.length c') ∧ w'.heap[w.heap.size]? = some (.cells Q0 67)) hC0 ?_
      generalize wd.drew = W0 at *
      refine tree_three ?_
      iterate 5 (refine ord_pure rfl rfl rfl (fun K' hK => ?_); go_big_quiet_op; refine hK _ ?_; clear hK K')
      refine ord_load (t := 77) rfl rfl rfl (p := .pointer (some ⟨b, 1, none⟩)) (v := .slice A R.length c) rfl (fun w' hC => load_one Tryd.underlying77 rfl hC.1) (fun K' hK => ?_)
      go_simp
      refine hK _ ?_
      clear hK K'
      refine ord_load (t := 67) rfl rfl rfl (p := .pointer (some ⟨w.heap.size, 0, none⟩)) (v := .agg Q0) rfl (fun w' hC => HLQ.out _ hC.2.2) (fun K' hK => ?_)
      go_simp
      refine hK _ ?_
      clear hK K'
      iterate 3 (refine ord_pure rfl rfl rfl (fun K' hK => ?_); go_big_quiet_op; refine hK _ ?_; clear hK K')
      refine ord_load (t := 22) rfl rfl rfl (p := .pointer (some ⟨b, 2, none⟩)) (v := .slice A' R.length c') rfl (fun w' hC => load_one Tryd.underlying22 rfl hC.2.1) (fun K' hK => ?_)
      go_simp
      refine hK _ ?_
      clear hK K'
      iterate 1 (refine ord_pure rfl rfl rfl (fun K' hK => ?_); go_big_quiet_op; refine hK _ ?_; clear hK K')
      refine ord_nil ?_
      refine ⟨?_, ?_, ?_⟩
      · obtain ⟨A6, c6, W6, hr6, hS⟩ := H6.out _ _ (hS.to (by ac_rfl : _ = PL • PB • PX • PU • FX))
        have hC9 := HC.out _ _ (hS.to (by ac_rfl : _ = PB • PX • P6 A6 c6 • PL • PU • FX))
        refine fork_act rfl rfl (fun K' hK => wp_append_run _ _ _ rfl rfl rfl hr6 (hK _ _ hC9 ?_))
        clear hK K' hC9
        go_simp
        refine tree_two0 ?_ ?_
        · have hS : Sat B w0 (W6.alloc (.cells (Value.agg Q0).cells 67)) (P8 W6.heap.size • P6 A6 c6 • PL • PB • PX • PU • FX) := H8.out _ _ hS
          have hC9 := HC.out _ _ (hS.to (by ac_rfl : _ = PB • PX • P8 W6.heap.size • P6 A6 c6 • PL • PU • FX))
          refine fork_act rfl rfl (fun K' hK => wp_buildSlice_one (v := .agg Q0) (sz := 40) rfl rfl Tryd.underlying77 hz2 HQS.out (by decide) (by decide) (hK _ _ hC9 ?_))
          clear hK K' hC9
          generalize W6.heap.size = g8 at *
          generalize W6.alloc (.cells (Value.agg Q0).cells 67) = V8 at *
          go_simp
          refine tree_two0 ?_ ?_
          · obtain ⟨A9, c9, W9, hr9, hS⟩ := H9.out _ _ _ _ _ (hS.to (by ac_rfl : _ = P6 A6 c6 • P8 g8 • PL • PB • PX • PU • FX))
            have hC9 := HC.out _ _ (hS.to (by ac_rfl : _ = PB • PX • P9 A9 c9 • P8 g8 • PL • PU • FX))
            refine fork_act rfl rfl (fun K' hK => wp_append_run _ _ _ rfl rfl rfl hr9 (hK _ _ hC9 ?_))
            clear hK K' hC9
            go_simp
            refine tree_two0 ?_ ?_
            · obtain ⟨A14, c14, W14, hr14, hS⟩ := H14.out _ _ (hS.to (by ac_rfl : _ = PU • P9 A9 c9 • P8 g8 • PL • PB • PX • FX))
              have hC9 := HC.out _ _ (hS.to (by ac_rfl : _ = PB • PX • P14 A14 c14 • PU • P9 A9 c9 • P8 g8 • PL • FX))
              refine fork_act rfl rfl (fun K' hK => wp_append_run _ _ _ rfl rfl rfl hr14 (hK _ _ hC9 ?_))
              clear hK K' hC9
              go_simp
              refine tree_leaf ?_
              have hS : Sat B w0 (W14.alloc (.cells (Value.int .u64 u).cells 23)) (P16 W14.heap.size • P14 A14 c14 • PU • P9 A9 c9 • P8 g8 • PL • PB • PX • FX) := H16.out _ _ hS
              have hC9 := HC.out _ _ (hS.to (by ac_rfl : _ = PB • PX • P16 W14.heap.size • P14 A14 c14 • PU • P9 A9 c9 • P8 g8 • PL • FX))
              refine ord_acts rfl rfl (fun K' hK => wp_buildSlice_one (v := .int .u64 u) (sz := 1) rfl rfl Tryd.underlying22 u64_zero2 rfl (by decide) (by decide) (hK _ _ hC9 ?_))
              clear hK K' hC9
              generalize W14.heap.size = g16 at *
              generalize W14.alloc (.cells (Value.int .u64 u).cells 23) = V16 at *
              go_simp
              obtain ⟨A17, c17, W17, hr17, hS⟩ := H17.out _ _ _ _ _ (hS.to (by ac_rfl : _ = P14 A14 c14 • P16 g16 • PU • P9 A9 c9 • P8 g8 • PL • PB • PX • FX))
              refine ord_seals rfl rfl (fun K' hK => wp_append_run _ _ _ rfl rfl rfl hr17 (hK (fun _ => True) _ _ trivial ?_))
              clear hK K'
              go_simp
              iterate 2 (refine ord_pure rfl rfl rfl (fun K' hK => ?_); go_big_quiet_op; refine hK _ ?_; clear hK K')
              obtain ⟨W20, hr20, hS⟩ := H20.out _ _ A9 c9 (hS.to (by ac_rfl : _ = PB • P17 A17 c17 • P16 g16 • PU • P9 A9 c9 • P8 g8 • PL • PX • FX))
              refine ord_store rfl rfl rfl rfl (p := .pointer (some ⟨b, 1, none⟩)) (v := .slice A9 (R.length + 1) c9) rfl rfl hr20 (fun _ => True) trivial ?_
              go_simp
              iterate 2 (refine ord_pure rfl rfl rfl (fun K' hK => ?_); go_big_quiet_op; refine hK _ ?_; clear hK K')
              obtain ⟨W23, hr23, hS⟩ := H23.out _ _ A9 c9 A17 c17 hS
              refine ord_store rfl rfl rfl rfl (p := .pointer (some ⟨b, 2, none⟩)) (v := .slice A17 (R.length + 1) c17) rfl rfl hr23 (fun _ => True) trivial ?_
              go_simp
              refine ord_nil ?_
              have hS := HEND.out _ _ _ _ _ _ next (hS.to (by ac_rfl : _ = PB2 A9 c9 A17 c17 • P9 A9 c9 • P17 A17 c17 • P16 g16 • PU • P8 g8 • PL • PX • FX))
              have hS := hS.pull2.drop.pull2.drop.pull2.drop.pull2.drop.pull2.drop
              rw [hFX] at hS
              obtain ⟨W30, hst, hS9⟩ := fail_store (c := 0) hS.pull2 rfl
              have hld := fail_load hS9
              have HS9 := Lib.hid hS9.drop
              clear hS hS9
              go_wp2_with (refine wpList_store_run (t := 46) rfl rfl rfl rfl hst ?_)
              refine ret_cell rfl rfl hld rfl ?_
              exact ⟨rfl, HS9.out⟩
            · have hS : Sat B w0 (W9.alloc (.cells (Value.int .u64 u).cells 23)) (P16 W9.heap.size • P9 A9 c9 • P8 g8 • PL • PB • PX • PU • FX) := H16.out _ _ hS
              have hC9 := HC.out _ _ (hS.to (by ac_rfl : _ = PB • PX • P16 W9.heap.size • P9 A9 c9 • P8 g8 • PL • PU • FX))
              refine fork_act rfl rfl (fun K' hK => wp_buildSlice_one (v := .int .u64 u) (sz := 1) rfl rfl Tryd.underlying22 u64_zero2 rfl (by decide) (by decide) (hK _ _ hC9 ?_))
              clear hK K' hC9
              generalize W9.heap.size = g16 at *
              generalize W9.alloc (.cells (Value.int .u64 u).cells 23) = V16 at *
              go_simp
              refine tree_leaf ?_
              obtain ⟨A14, c14, W14, hr14, hS⟩ := H14.out _ _ (hS.to (by ac_rfl : _ = PU • P16 g16 • P9 A9 c9 • P8 g8 • PL • PB • PX • FX))
              have hC9 := HC.out _ _ (hS.to (by ac_rfl : _ = PB • PX • P14 A14 c14 • PU • P16 g16 • P9 A9 c9 • P8 g8 • PL • FX))
              refine ord_acts rfl rfl (fun K' hK => wp_append_run _ _ _ rfl rfl rfl hr14 (hK _ _ hC9 ?_))
              clear hK K' hC9
              go_simp
              obtain ⟨A17, c17, W17, hr17, hS⟩ := H17.out _ _ _ _ _ (hS.to (by ac_rfl : _ = P14 A14 c14 • P16 g16 • PU • P9 A9 c9 • P8 g8 • PL • PB • PX • FX))
              refine ord_seals rfl rfl (fun K' hK => wp_append_run _ _ _ rfl rfl rfl hr17 (hK (fun _ => True) _ _ trivial ?_))
              clear hK K'
              go_simp
              iterate 2 (refine ord_pure rfl rfl rfl (fun K' hK => ?_); go_big_quiet_op; refine hK _ ?_; clear hK K')
              obtain ⟨W20, hr20, hS⟩ := H20.out _ _ A9 c9 (hS.to (by ac_rfl : _ = PB • P17 A17 c17 • P16 g16 • PU • P9 A9 c9 • P8 g8 • PL • PX • FX))
              refine ord_store rfl rfl rfl rfl (p := .pointer (some ⟨b, 1, none⟩)) (v := .slice A9 (R.length + 1) c9) rfl rfl hr20 (fun _ => True) trivial ?_
              go_simp
              iterate 2 (refine ord_pure rfl rfl rfl (fun K' hK => ?_); go_big_quiet_op; refine hK _ ?_; clear hK K')
              obtain ⟨W23, hr23, hS⟩ := H23.out _ _ A9 c9 A17 c17 hS
              refine ord_store rfl rfl rfl rfl (p := .pointer (some ⟨b, 2, none⟩)) (v := .slice A17 (R.length + 1) c17) rfl rfl hr23 (fun _ => True) trivial ?_
              go_simp
              refine ord_nil ?_
              have hS := HEND.out _ _ _ _ _ _ next (hS.to (by ac_rfl : _ = PB2 A9 c9 A17 c17 • P9 A9 c9 • P17 A17 c17 • P16 g16 • PU • P8 g8 • PL • PX • FX))
              have hS := hS.pull2.drop.pull2.drop.pull2.drop.pull2.drop.pull2.drop
              rw [hFX] at hS
              obtain ⟨W30, hst, hS9⟩ := fail_store (c := 0) hS.pull2 rfl
              have hld := fail_load hS9
              have HS9 := Lib.hid hS9.drop
              clear hS hS9
              go_wp2_with (refine wpList_store_run (t := 46) rfl rfl rfl rfl hst ?_)
              refine ret_cell rfl rfl hld rfl ?_
              exact ⟨rfl, HS9.out⟩
          · have hS : Sat B w0 (V8.alloc (.cells (Value.int .u64 u).cells 23)) (P16 V8.heap.size • P8 g8 • P6 A6 c6 • PL • PB • PX • PU • FX) := H16.out _ _ hS
            have hC9 := HC.out _ _ (hS.to (by ac_rfl : _ = PB • PX • P16 V8.heap.size • P8 g8 • P6 A6 c6 • PL • PU • FX))
            refine fork_act rfl rfl (fun K' hK => wp_buildSlice_one (v := .int .u64 u) (sz := 1) rfl rfl Tryd.underlying22 u64_zero2 rfl (by decide) (by decide) (hK _ _ hC9 ?_))
            clear hK K' hC9
            generalize V8.heap.size = g16 at *
            generalize V8.alloc (.cells (Value.int .u64 u).cells 23) = V16 at *
            go_simp
            refine tree_leaf ?_
            obtain ⟨A9, c9, W9, hr9, hS⟩ := H9.out _ _ _ _ _ (hS.to (by ac_rfl : _ = P6 A6 c6 • P8 g8 • P16 g16 • PL • PB • PX • PU • FX))
            have hC9 := HC.out _ _ (hS.to (by ac_rfl : _ = PB • PX • P9 A9 c9 • P8 g8 • P16 g16 • PL • PU • FX))
            refine ord_acts rfl rfl (fun K' hK => wp_append_run _ _ _ rfl rfl rfl hr9 (hK _ _ hC9 ?_))
            clear hK K' hC9
            go_simp
            obtain ⟨A14, c14, W14, hr14, hS⟩ := H14.out _ _ (hS.to (by ac_rfl : _ = PU • P9 A9 c9 • P8 g8 • P16 g16 • PL • PB • PX • FX))
            have hC9 := HC.out _ _ (hS.to (by ac_rfl : _ = PB • PX • P14 A14 c14 • PU • P9 A9 c9 • P8 g8 • P16 g16 • PL • FX))
            refine ord_acts rfl rfl (fun K' hK => wp_append_run _ _ _ rfl rfl rfl hr14 (hK _ _ hC9 ?_))
            clear hK K' hC9
            go_simp
            obtain ⟨A17, c17, W17, hr17, hS⟩ := H17.out _ _ _ _ _ (hS.to (by ac_rfl : _ = P14 A14 c14 • P16 g16 • PU • P9 A9 c9 • P8 g8 • PL • PB • PX • FX))
            refine ord_seals rfl rfl (fun K' hK => wp_append_run _ _ _ rfl rfl rfl hr17 (hK (fun _ => True) _ _ trivial ?_))
            clear hK K'
            go_simp
            iterate 2 (refine ord_pure rfl rfl rfl (fun K' hK => ?_); go_big_quiet_op; refine hK _ ?_; clear hK K')
            obtain ⟨W20, hr20, hS⟩ := H20.out _ _ A9 c9 (hS.to (by ac_rfl : _ = PB • P17 A17 c17 • P16 g16 • PU • P9 A9 c9 • P8 g8 • PL • PX • FX))
            refine ord_store rfl rfl rfl rfl (p := .pointer (some ⟨b, 1, none⟩)) (v := .slice A9 (R.length + 1) c9) rfl rfl hr20 (fun _ => True) trivial ?_
            go_simp
            iterate 2 (refine ord_pure rfl rfl rfl (fun K' hK => ?_); go_big_quiet_op; refine hK _ ?_; clear hK K')
            obtain ⟨W23, hr23, hS⟩ := H23.out _ _ A9 c9 A17 c17 hS
            refine ord_store rfl rfl rfl rfl (p := .pointer (some ⟨b, 2, none⟩)) (v := .slice A17 (R.length + 1) c17) rfl rfl hr23 (fun _ => True) trivial ?_
            go_simp
            refine ord_nil ?_
            have hS := HEND.out _ _ _ _ _ _ next (hS.to (by ac_rfl : _ = PB2 A9 c9 A17 c17 • P9 A9 c9 • P17 A17 c17 • P16 g16 • PU • P8 g8 • PL • PX • FX))
            have hS := hS.pull2.drop.pull2.drop.pull2.drop.pull2.drop.pull2.drop
            rw [hFX] at hS
            obtain ⟨W30, hst, hS9⟩ := fail_store (c := 0) hS.pull2 rfl
            have hld := fail_load hS9
            have HS9 := Lib.hid hS9.drop
            clear hS hS9
            go_wp2_with (refine wpList_store_run (t := 46) rfl rfl rfl rfl hst ?_)
            refine ret_cell rfl rfl hld rfl ?_
            exact ⟨rfl, HS9.out⟩
        · have hS : Sat B w0 (W6.alloc (.cells (Value.int .u64 u).cells 23)) (P16 W6.heap.size • P6 A6 c6 • PL • PB • PX • PU • FX) := H16.out _ _ hS
          have hC9 := HC.out _ _ (hS.to (by ac_rfl : _ = PB • PX • P16 W6.heap.size • P6 A6 c6 • PL • PU • FX))
          refine fork_act rfl rfl (fun K' hK => wp_buildSlice_one (v := .int .u64 u) (sz := 1) rfl rfl Tryd.underlying22 u64_zero2 rfl (by decide) (by decide) (hK _ _ hC9 ?_))
          clear hK K' hC9
          generalize W6.heap.size = g16 at *
          generalize W6.alloc (.cells (Value.int .u64 u).cells 23) = V16 at *
          go_simp
          refine tree_leaf ?_
          have hS : Sat B w0 (V16.alloc (.cells (Value.agg Q0).cells 67)) (P8 V16.heap.size • P16 g16 • P6 A6 c6 • PL • PB • PX • PU • FX) := H8.out _ _ hS
          have hC9 := HC.out _ _ (hS.to (by ac_rfl : _ = PB • PX • P8 V16.heap.size • P16 g16 • P6 A6 c6 • PL • PU • FX))
          refine ord_acts rfl rfl (fun K' hK => wp_buildSlice_one (v := .agg Q0) (sz := 40) rfl rfl Tryd.underlying77 hz2 HQS.out (by decide) (by decide) (hK _ _ hC9 ?_))
          clear hK K' hC9
          generalize V16.heap.size = g8 at *
          generalize V16.alloc (.cells (Value.agg Q0).cells 67) = V8 at *
          go_simp
          obtain ⟨A9, c9, W9, hr9, hS⟩ := H9.out _ _ _ _ _ (hS.to (by ac_rfl : _ = P6 A6 c6 • P8 g8 • P16 g16 • PL • PB • PX • PU • FX))
          have hC9 := HC.out _ _ (hS.to (by ac_rfl : _ = PB • PX • P9 A9 c9 • P8 g8 • P16 g16 • PL • PU • FX))
          refine ord_acts rfl rfl (fun K' hK => wp_append_run _ _ _ rfl rfl rfl hr9 (hK _ _ hC9 ?_))
          clear hK K' hC9
          go_simp
          obtain ⟨A14, c14, W14, hr14, hS⟩ := H14.out _ _ (hS.to (by ac_rfl : _ = PU • P9 A9 c9 • P8 g8 • P16 g16 • PL • PB • PX • FX))
          have hC9 := HC.out _ _ (hS.to (by ac_rfl : _ = PB • PX • P14 A14 c14 • PU • P9 A9 c9 • P8 g8 • P16 g16 • PL • FX))
          refine ord_acts rfl rfl (fun K' hK => wp_append_run _ _ _ rfl rfl rfl hr14 (hK _ _ hC9 ?_))
          clear hK K' hC9
          go_simp
          obtain ⟨A17, c17, W17, hr17, hS⟩ := H17.out _ _ _ _ _ (hS.to (by ac_rfl : _ = P14 A14 c14 • P16 g16 • PU • P9 A9 c9 • P8 g8 • PL • PB • PX • FX))
          refine ord_seals rfl rfl (fun K' hK => wp_append_run _ _ _ rfl rfl rfl hr17 (hK (fun _ => True) _ _ trivial ?_))
          clear hK K'
          go_simp
          iterate 2 (refine ord_pure rfl rfl rfl (fun K' hK => ?_); go_big_quiet_op; refine hK _ ?_; clear hK K')
          obtain ⟨W20, hr20, hS⟩ := H20.out _ _ A9 c9 (hS.to (by ac_rfl : _ = PB • P17 A17 c17 • P16 g16 • PU • P9 A9 c9 • P8 g8 • PL • PX • FX))
          refine ord_store rfl rfl rfl rfl (p := .pointer (some ⟨b, 1, none⟩)) (v := .slice A9 (R.length + 1) c9) rfl rfl hr20 (fun _ => True) trivial ?_
          go_simp
          iterate 2 (refine ord_pure rfl rfl rfl (fun K' hK => ?_); go_big_quiet_op; refine hK _ ?_; clear hK K')
          obtain ⟨W23, hr23, hS⟩ := H23.out _ _ A9 c9 A17 c17 hS
          refine ord_store rfl rfl rfl rfl (p := .pointer (some ⟨b, 2, none⟩)) (v := .slice A17 (R.length + 1) c17) rfl rfl hr23 (fun _ => True) trivial ?_
          go_simp
          refine ord_nil ?_
          have hS := HEND.out _ _ _ _ _ _ next (hS.to (by ac_rfl : _ = PB2 A9 c9 A17 c17 • P9 A9 c9 • P17 A17 c17 • P16 g16 • PU • P8 g8 • PL • PX • FX))
          have hS := hS.pull2.drop.pull2.drop.pull2.drop.pull2.drop.pull2.drop
          rw [hFX] at hS
          obtain ⟨W30, hst, hS9⟩ := fail_store (c := 0) hS.pull2 rfl
          have hld := fail_load hS9
          have HS9 := Lib.hid hS9.drop
          clear hS hS9
          go_wp2_with (refine wpList_store_run (t := 46) rfl rfl rfl rfl hst ?_)
          refine ret_cell rfl rfl hld rfl ?_
          exact ⟨rfl, HS9.out⟩
      · have hS : Sat B w0 (W0.alloc (.cells (Value.agg Q0).cells 67)) (P8 W0.heap.size • PB • PX • PL • PU • FX) := H8.out _ _ hS
        have hC9 := HC.out _ _ (hS.to (by ac_rfl : _ = PB • PX • P8 W0.heap.size • PL • PU • FX))
        refine fork_act rfl rfl (fun K' hK => wp_buildSlice_one (v := .agg Q0) (sz := 40) rfl rfl Tryd.underlying77 hz2 HQS.out (by decide) (by decide) (hK _ _ hC9 ?_))
        clear hK K' hC9
        generalize W0.heap.size = g8 at *
        generalize W0.alloc (.cells (Value.agg Q0).cells 67) = V8 at *
        go_simp
        refine tree_two0 ?_ ?_
        · obtain ⟨A6, c6, W6, hr6, hS⟩ := H6.out _ _ (hS.to (by ac_rfl : _ = PL • P8 g8 • PB • PX • PU • FX))
          have hC9 := HC.out _ _ (hS.to (by ac_rfl : _ = PB • PX • P6 A6 c6 • PL • P8 g8 • PU • FX))
          refine fork_act rfl rfl (fun K' hK => wp_append_run _ _ _ rfl rfl rfl hr6 (hK _ _ hC9 ?_))
          clear hK K' hC9
          go_simp
          refine tree_two0 ?_ ?_
          · obtain ⟨A9, c9, W9, hr9, hS⟩ := H9.out _ _ _ _ _ (hS.to (by ac_rfl : _ = P6 A6 c6 • P8 g8 • PL • PB • PX • PU • FX))
            have hC9 := HC.out _ _ (hS.to (by ac_rfl : _ = PB • PX • P9 A9 c9 • P8 g8 • PL • PU • FX))
            refine fork_act rfl rfl (fun K' hK => wp_append_run _ _ _ rfl rfl rfl hr9 (hK _ _ hC9 ?_))
            clear hK K' hC9
            go_simp
            refine tree_two0 ?_ ?_
            · obtain ⟨A14, c14, W14, hr14, hS⟩ := H14.out _ _ (hS.to (by ac_rfl : _ = PU • P9 A9 c9 • P8 g8 • PL • PB • PX • FX))
              have hC9 := HC.out _ _ (hS.to (by ac_rfl : _ = PB • PX • P14 A14 c14 • PU • P9 A9 c9 • P8 g8 • PL • FX))
              refine fork_act rfl rfl (fun K' hK => wp_append_run _ _ _ rfl rfl rfl hr14 (hK _ _ hC9 ?_))
              clear hK K' hC9
              go_simp
              refine tree_leaf ?_
              have hS : Sat B w0 (W14.alloc (.cells (Value.int .u64 u).cells 23)) (P16 W14.heap.size • P14 A14 c14 • PU • P9 A9 c9 • P8 g8 • PL • PB • PX • FX) := H16.out _ _ hS
              have hC9 := HC.out _ _ (hS.to (by ac_rfl : _ = PB • PX • P16 W14.heap.size • P14 A14 c14 • PU • P9 A9 c9 • P8 g8 • PL • FX))
              refine ord_acts rfl rfl (fun K' hK => wp_buildSlice_one (v := .int .u64 u) (sz := 1) rfl rfl Tryd.underlying22 u64_zero2 rfl (by decide) (by decide) (hK _ _ hC9 ?_))
              clear hK K' hC9
              generalize W14.heap.size = g16 at *
              generalize W14.alloc (.cells (Value.int .u64 u).cells 23) = V16 at *
              go_simp
              obtain ⟨A17, c17, W17, hr17, hS⟩ := H17.out _ _ _ _ _ (hS.to (by ac_rfl : _ = P14 A14 c14 • P16 g16 • PU • P9 A9 c9 • P8 g8 • PL • PB • PX • FX))
              refine ord_seals rfl rfl (fun K' hK => wp_append_run _ _ _ rfl rfl rfl hr17 (hK (fun _ => True) _ _ trivial ?_))
              clear hK K'
              go_simp
              iterate 2 (refine ord_pure rfl rfl rfl (fun K' hK => ?_); go_big_quiet_op; refine hK _ ?_; clear hK K')
              obtain ⟨W20, hr20, hS⟩ := H20.out _ _ A9 c9 (hS.to (by ac_rfl : _ = PB • P17 A17 c17 • P16 g16 • PU • P9 A9 c9 • P8 g8 • PL • PX • FX))
              refine ord_store rfl rfl rfl rfl (p := .pointer (some ⟨b, 1, none⟩)) (v := .slice A9 (R.length + 1) c9) rfl rfl hr20 (fun _ => True) trivial ?_
              go_simp
              iterate 2 (refine ord_pure rfl rfl rfl (fun K' hK => ?_); go_big_quiet_op; refine hK _ ?_; clear hK K')
              obtain ⟨W23, hr23, hS⟩ := H23.out _ _ A9 c9 A17 c17 hS
              refine ord_store rfl rfl rfl rfl (p := .pointer (some ⟨b, 2, none⟩)) (v := .slice A17 (R.length + 1) c17) rfl rfl hr23 (fun _ => True) trivial ?_
              go_simp
              refine ord_nil ?_
              have hS := HEND.out _ _ _ _ _ _ next (hS.to (by ac_rfl : _ = PB2 A9 c9 A17 c17 • P9 A9 c9 • P17 A17 c17 • P16 g16 • PU • P8 g8 • PL • PX • FX))
              have hS := hS.pull2.drop.pull2.drop.pull2.drop.pull2.drop.pull2.drop
              rw [hFX] at hS
              obtain ⟨W30, hst, hS9⟩ := fail_store (c := 0) hS.pull2 rfl
              have hld := fail_load hS9
              have HS9 := Lib.hid hS9.drop
              clear hS hS9
              go_wp2_with (refine wpList_store_run (t := 46) rfl rfl rfl rfl hst ?_)
              refine ret_cell rfl rfl hld rfl ?_
              exact ⟨rfl, HS9.out⟩
            · have hS : Sat B w0 (W9.alloc (.cells (Value.int .u64 u).cells 23)) (P16 W9.heap.size • P9 A9 c9 • P8 g8 • PL • PB • PX • PU • FX) := H16.out _ _ hS
              have hC9 := HC.out _ _ (hS.to (by ac_rfl : _ = PB • PX • P16 W9.heap.size • P9 A9 c9 • P8 g8 • PL • PU • FX))
              refine fork_act rfl rfl (fun K' hK => wp_buildSlice_one (v := .int .u64 u) (sz := 1) rfl rfl Tryd.underlying22 u64_zero2 rfl (by decide) (by decide) (hK _ _ hC9 ?_))
              clear hK K' hC9
              generalize W9.heap.size = g16 at *
              generalize W9.alloc (.cells (Value.int .u64 u).cells 23) = V16 at *
              go_simp
              refine tree_leaf ?_
              obtain ⟨A14, c14, W14, hr14, hS⟩ := H14.out _ _ (hS.to (by ac_rfl : _ = PU • P16 g16 • P9 A9 c9 • P8 g8 • PL • PB • PX • FX))
              have hC9 := HC.out _ _ (hS.to (by ac_rfl : _ = PB • PX • P14 A14 c14 • PU • P16 g16 • P9 A9 c9 • P8 g8 • PL • FX))
              refine ord_acts rfl rfl (fun K' hK => wp_append_run _ _ _ rfl rfl rfl hr14 (hK _ _ hC9 ?_))
              clear hK K' hC9
              go_simp
              obtain ⟨A17, c17, W17, hr17, hS⟩ := H17.out _ _ _ _ _ (hS.to (by ac_rfl : _ = P14 A14 c14 • P16 g16 • PU • P9 A9 c9 • P8 g8 • PL • PB • PX • FX))
              refine ord_seals rfl rfl (fun K' hK => wp_append_run _ _ _ rfl rfl rfl hr17 (hK (fun _ => True) _ _ trivial ?_))
              clear hK K'
              go_simp
              iterate 2 (refine ord_pure rfl rfl rfl (fun K' hK => ?_); go_big_quiet_op; refine hK _ ?_; clear hK K')
              obtain ⟨W20, hr20, hS⟩ := H20.out _ _ A9 c9 (hS.to (by ac_rfl : _ = PB • P17 A17 c17 • P16 g16 • PU • P9 A9 c9 • P8 g8 • PL • PX • FX))
              refine ord_store rfl rfl rfl rfl (p := .pointer (some ⟨b, 1, none⟩)) (v := .slice A9 (R.length + 1) c9) rfl rfl hr20 (fun _ => True) trivial ?_
              go_simp
              iterate 2 (refine ord_pure rfl rfl rfl (fun K' hK => ?_); go_big_quiet_op; refine hK _ ?_; clear hK K')
              obtain ⟨W23, hr23, hS⟩ := H23.out _ _ A9 c9 A17 c17 hS
              refine ord_store rfl rfl rfl rfl (p := .pointer (some ⟨b, 2, none⟩)) (v := .slice A17 (R.length + 1) c17) rfl rfl hr23 (fun _ => True) trivial ?_
              go_simp
              refine ord_nil ?_
              have hS := HEND.out _ _ _ _ _ _ next (hS.to (by ac_rfl : _ = PB2 A9 c9 A17 c17 • P9 A9 c9 • P17 A17 c17 • P16 g16 • PU • P8 g8 • PL • PX • FX))
              have hS := hS.pull2.drop.pull2.drop.pull2.drop.pull2.drop.pull2.drop
              rw [hFX] at hS
              obtain ⟨W30, hst, hS9⟩ := fail_store (c := 0) hS.pull2 rfl
              have hld := fail_load hS9
              have HS9 := Lib.hid hS9.drop
              clear hS hS9
              go_wp2_with (refine wpList_store_run (t := 46) rfl rfl rfl rfl hst ?_)
              refine ret_cell rfl rfl hld rfl ?_
              exact ⟨rfl, HS9.out⟩
          · have hS : Sat B w0 (W6.alloc (.cells (Value.int .u64 u).cells 23)) (P16 W6.heap.size • P6 A6 c6 • PL • P8 g8 • PB • PX • PU • FX) := H16.out _ _ hS
            have hC9 := HC.out _ _ (hS.to (by ac_rfl : _ = PB • PX • P16 W6.heap.size • P6 A6 c6 • PL • P8 g8 • PU • FX))
            refine fork_act rfl rfl (fun K' hK => wp_buildSlice_one (v := .int .u64 u) (sz := 1) rfl rfl Tryd.underlying22 u64_zero2 rfl (by decide) (by decide) (hK _ _ hC9 ?_))
            clear hK K' hC9
            generalize W6.heap.size = g16 at *
            generalize W6.alloc (.cells (Value.int .u64 u).cells 23) = V16 at *
            go_simp
            refine tree_leaf ?_
            obtain ⟨A9, c9, W9, hr9, hS⟩ := H9.out _ _ _ _ _ (hS.to (by ac_rfl : _ = P6 A6 c6 • P8 g8 • P16 g16 • PL • PB • PX • PU • FX))
            have hC9 := HC.out _ _ (hS.to (by ac_rfl : _ = PB • PX • P9 A9 c9 • P8 g8 • P16 g16 • PL • PU • FX))
            refine ord_acts rfl rfl (fun K' hK => wp_append_run _ _ _ rfl rfl rfl hr9 (hK _ _ hC9 ?_))
            clear hK K' hC9
            go_simp
            obtain ⟨A14, c14, W14, hr14, hS⟩ := H14.out _ _ (hS.to (by ac_rfl : _ = PU • P9 A9 c9 • P8 g8 • P16 g16 • PL • PB • PX • FX))
            have hC9 := HC.out _ _ (hS.to (by ac_rfl : _ = PB • PX • P14 A14 c14 • PU • P9 A9 c9 • P8 g8 • P16 g16 • PL • FX))
            refine ord_acts rfl rfl (fun K' hK => wp_append_run _ _ _ rfl rfl rfl hr14 (hK _ _ hC9 ?_))
            clear hK K' hC9
            go_simp
            obtain ⟨A17, c17, W17, hr17, hS⟩ := H17.out _ _ _ _ _ (hS.to (by ac_rfl : _ = P14 A14 c14 • P16 g16 • PU • P9 A9 c9 • P8 g8 • PL • PB • PX • FX))
            refine ord_seals rfl rfl (fun K' hK => wp_append_run _ _ _ rfl rfl rfl hr17 (hK (fun _ => True) _ _ trivial ?_))
            clear hK K'
            go_simp
            iterate 2 (refine ord_pure rfl rfl rfl (fun K' hK => ?_); go_big_quiet_op; refine hK _ ?_; clear hK K')
            obtain ⟨W20, hr20, hS⟩ := H20.out _ _ A9 c9 (hS.to (by ac_rfl : _ = PB • P17 A17 c17 • P16 g16 • PU • P9 A9 c9 • P8 g8 • PL • PX • FX))
            refine ord_store rfl rfl rfl rfl (p := .pointer (some ⟨b, 1, none⟩)) (v := .slice A9 (R.length + 1) c9) rfl rfl hr20 (fun _ => True) trivial ?_
            go_simp
            iterate 2 (refine ord_pure rfl rfl rfl (fun K' hK => ?_); go_big_quiet_op; refine hK _ ?_; clear hK K')
            obtain ⟨W23, hr23, hS⟩ := H23.out _ _ A9 c9 A17 c17 hS
            refine ord_store rfl rfl rfl rfl (p := .pointer (some ⟨b, 2, none⟩)) (v := .slice A17 (R.length + 1) c17) rfl rfl hr23 (fun _ => True) trivial ?_
            go_simp
            refine ord_nil ?_
            have hS := HEND.out _ _ _ _ _ _ next (hS.to (by ac_rfl : _ = PB2 A9 c9 A17 c17 • P9 A9 c9 • P17 A17 c17 • P16 g16 • PU • P8 g8 • PL • PX • FX))
            have hS := hS.pull2.drop.pull2.drop.pull2.drop.pull2.drop.pull2.drop
            rw [hFX] at hS
            obtain ⟨W30, hst, hS9⟩ := fail_store (c := 0) hS.pull2 rfl
            have hld := fail_load hS9
            have HS9 := Lib.hid hS9.drop
            clear hS hS9
            go_wp2_with (refine wpList_store_run (t := 46) rfl rfl rfl rfl hst ?_)
            refine ret_cell rfl rfl hld rfl ?_
            exact ⟨rfl, HS9.out⟩
        · have hS : Sat B w0 (V8.alloc (.cells (Value.int .u64 u).cells 23)) (P16 V8.heap.size • P8 g8 • PB • PX • PL • PU • FX) := H16.out _ _ hS
          have hC9 := HC.out _ _ (hS.to (by ac_rfl : _ = PB • PX • P16 V8.heap.size • P8 g8 • PL • PU • FX))
          refine fork_act rfl rfl (fun K' hK => wp_buildSlice_one (v := .int .u64 u) (sz := 1) rfl rfl Tryd.underlying22 u64_zero2 rfl (by decide) (by decide) (hK _ _ hC9 ?_))
          clear hK K' hC9
          generalize V8.heap.size = g16 at *
          generalize V8.alloc (.cells (Value.int .u64 u).cells 23) = V16 at *
          go_simp
          refine tree_leaf ?_
          obtain ⟨A6, c6, W6, hr6, hS⟩ := H6.out _ _ (hS.to (by ac_rfl : _ = PL • P16 g16 • P8 g8 • PB • PX • PU • FX))
          have hC9 := HC.out _ _ (hS.to (by ac_rfl : _ = PB • PX • P6 A6 c6 • PL • P16 g16 • P8 g8 • PU • FX))
          refine ord_acts rfl rfl (fun K' hK => wp_append_run _ _ _ rfl rfl rfl hr6 (hK _ _ hC9 ?_))
          clear hK K' hC9
          go_simp
          obtain ⟨A9, c9, W9, hr9, hS⟩ := H9.out _ _ _ _ _ (hS.to (by ac_rfl : _ = P6 A6 c6 • P8 g8 • PL • P16 g16 • PB • PX • PU • FX))
          have hC9 := HC.out _ _ (hS.to (by ac_rfl : _ = PB • PX • P9 A9 c9 • P8 g8 • PL • P16 g16 • PU • FX))
          refine ord_acts rfl rfl (fun K' hK => wp_append_run _ _ _ rfl rfl rfl hr9 (hK _ _ hC9 ?_))
          clear hK K' hC9
          go_simp
          obtain ⟨A14, c14, W14, hr14, hS⟩ := H14.out _ _ (hS.to (by ac_rfl : _ = PU • P9 A9 c9 • P8 g8 • PL • P16 g16 • PB • PX • FX))
          have hC9 := HC.out _ _ (hS.to (by ac_rfl : _ = PB • PX • P14 A14 c14 • PU • P9 A9 c9 • P8 g8 • PL • P16 g16 • FX))
          refine ord_acts rfl rfl (fun K' hK => wp_append_run _ _ _ rfl rfl rfl hr14 (hK _ _ hC9 ?_))
          clear hK K' hC9
          go_simp
          obtain ⟨A17, c17, W17, hr17, hS⟩ := H17.out _ _ _ _ _ (hS.to (by ac_rfl : _ = P14 A14 c14 • P16 g16 • PU • P9 A9 c9 • P8 g8 • PL • PB • PX • FX))
          refine ord_seals rfl rfl (fun K' hK => wp_append_run _ _ _ rfl rfl rfl hr17 (hK (fun _ => True) _ _ trivial ?_))
          clear hK K'
          go_simp
          iterate 2 (refine ord_pure rfl rfl rfl (fun K' hK => ?_); go_big_quiet_op; refine hK _ ?_; clear hK K')
          obtain ⟨W20, hr20, hS⟩ := H20.out _ _ A9 c9 (hS.to (by ac_rfl : _ = PB • P17 A17 c17 • P16 g16 • PU • P9 A9 c9 • P8 g8 • PL • PX • FX))
          refine ord_store rfl rfl rfl rfl (p := .pointer (some ⟨b, 1, none⟩)) (v := .slice A9 (R.length + 1) c9) rfl rfl hr20 (fun _ => True) trivial ?_
          go_simp
          iterate 2 (refine ord_pure rfl rfl rfl (fun K' hK => ?_); go_big_quiet_op; refine hK _ ?_; clear hK K')
          obtain ⟨W23, hr23, hS⟩ := H23.out _ _ A9 c9 A17 c17 hS
          refine ord_store rfl rfl rfl rfl (p := .pointer (some ⟨b, 2, none⟩)) (v := .slice A17 (R.length + 1) c17) rfl rfl hr23 (fun _ => True) trivial ?_
          go_simp
          refine ord_nil ?_
          have hS := HEND.out _ _ _ _ _ _ next (hS.to (by ac_rfl : _ = PB2 A9 c9 A17 c17 • P9 A9 c9 • P17 A17 c17 • P16 g16 • PU • P8 g8 • PL • PX • FX))
          have hS := hS.pull2.drop.pull2.drop.pull2.drop.pull2.drop.pull2.drop
          rw [hFX] at hS
          obtain ⟨W30, hst, hS9⟩ := fail_store (c := 0) hS.pull2 rfl
          have hld := fail_load hS9
          have HS9 := Lib.hid hS9.drop
          clear hS hS9
          go_wp2_with (refine wpList_store_run (t := 46) rfl rfl rfl rfl hst ?_)
          refine ret_cell rfl rfl hld rfl ?_
          exact ⟨rfl, HS9.out⟩
      · have hS : Sat B w0 (W0.alloc (.cells (Value.int .u64 u).cells 23)) (P16 W0.heap.size • PB • PX • PL • PU • FX) := H16.out _ _ hS
        have hC9 := HC.out _ _ (hS.to (by ac_rfl : _ = PB • PX • P16 W0.heap.size • PL • PU • FX))
        refine fork_act rfl rfl (fun K' hK => wp_buildSlice_one (v := .int .u64 u) (sz := 1) rfl rfl Tryd.underlying22 u64_zero2 rfl (by decide) (by decide) (hK _ _ hC9 ?_))
        clear hK K' hC9
        generalize W0.heap.size = g16 at *
        generalize W0.alloc (.cells (Value.int .u64 u).cells 23) = V16 at *
        go_simp
        refine tree_two0 ?_ ?_
        · obtain ⟨A6, c6, W6, hr6, hS⟩ := H6.out _ _ (hS.to (by ac_rfl : _ = PL • P16 g16 • PB • PX • PU • FX))
          have hC9 := HC.out _ _ (hS.to (by ac_rfl : _ = PB • PX • P6 A6 c6 • PL • P16 g16 • PU • FX))
          refine fork_act rfl rfl (fun K' hK => wp_append_run _ _ _ rfl rfl rfl hr6 (hK _ _ hC9 ?_))
          clear hK K' hC9
          go_simp
          refine tree_leaf ?_
          have hS : Sat B w0 (W6.alloc (.cells (Value.agg Q0).cells 67)) (P8 W6.heap.size • P6 A6 c6 • PL • P16 g16 • PB • PX • PU • FX) := H8.out _ _ hS
          have hC9 := HC.out _ _ (hS.to (by ac_rfl : _ = PB • PX • P8 W6.heap.size • P6 A6 c6 • PL • P16 g16 • PU • FX))
          refine ord_acts rfl rfl (fun K' hK => wp_buildSlice_one (v := .agg Q0) (sz := 40) rfl rfl Tryd.underlying77 hz2 HQS.out (by decide) (by decide) (hK _ _ hC9 ?_))
          clear hK K' hC9
          generalize W6.heap.size = g8 at *
          generalize W6.alloc (.cells (Value.agg Q0).cells 67) = V8 at *
          go_simp
          obtain ⟨A9, c9, W9, hr9, hS⟩ := H9.out _ _ _ _ _ (hS.to (by ac_rfl : _ = P6 A6 c6 • P8 g8 • PL • P16 g16 • PB • PX • PU • FX))
          have hC9 := HC.out _ _ (hS.to (by ac_rfl : _ = PB • PX • P9 A9 c9 • P8 g8 • PL • P16 g16 • PU • FX))
          refine ord_acts rfl rfl (fun K' hK => wp_append_run _ _ _ rfl rfl rfl hr9 (hK _ _ hC9 ?_))
          clear hK K' hC9
          go_simp
          obtain ⟨A14, c14, W14, hr14, hS⟩ := H14.out _ _ (hS.to (by ac_rfl : _ = PU • P9 A9 c9 • P8 g8 • PL • P16 g16 • PB • PX • FX))
          have hC9 := HC.out _ _ (hS.to (by ac_rfl : _ = PB • PX • P14 A14 c14 • PU • P9 A9 c9 • P8 g8 • PL • P16 g16 • FX))
          refine ord_acts rfl rfl (fun K' hK => wp_append_run _ _ _ rfl rfl rfl hr14 (hK _ _ hC9 ?_))
          clear hK K' hC9
          go_simp
          obtain ⟨A17, c17, W17, hr17, hS⟩ := H17.out _ _ _ _ _ (hS.to (by ac_rfl : _ = P14 A14 c14 • P16 g16 • PU • P9 A9 c9 • P8 g8 • PL • PB • PX • FX))
          refine ord_seals rfl rfl (fun K' hK => wp_append_run _ _ _ rfl rfl rfl hr17 (hK (fun _ => True) _ _ trivial ?_))
          clear hK K'
          go_simp
          iterate 2 (refine ord_pure rfl rfl rfl (fun K' hK => ?_); go_big_quiet_op; refine hK _ ?_; clear hK K')
          obtain ⟨W20, hr20, hS⟩ := H20.out _ _ A9 c9 (hS.to (by ac_rfl : _ = PB • P17 A17 c17 • P16 g16 • PU • P9 A9 c9 • P8 g8 • PL • PX • FX))
          refine ord_store rfl rfl rfl rfl (p := .pointer (some ⟨b, 1, none⟩)) (v := .slice A9 (R.length + 1) c9) rfl rfl hr20 (fun _ => True) trivial ?_
          go_simp
          iterate 2 (refine ord_pure rfl rfl rfl (fun K' hK => ?_); go_big_quiet_op; refine hK _ ?_; clear hK K')
          obtain ⟨W23, hr23, hS⟩ := H23.out _ _ A9 c9 A17 c17 hS
          refine ord_store rfl rfl rfl rfl (p := .pointer (some ⟨b, 2, none⟩)) (v := .slice A17 (R.length + 1) c17) rfl rfl hr23 (fun _ => True) trivial ?_
          go_simp
          refine ord_nil ?_
          have hS := HEND.out _ _ _ _ _ _ next (hS.to (by ac_rfl : _ = PB2 A9 c9 A17 c17 • P9 A9 c9 • P17 A17 c17 • P16 g16 • PU • P8 g8 • PL • PX • FX))
          have hS := hS.pull2.drop.pull2.drop.pull2.drop.pull2.drop.pull2.drop
          rw [hFX] at hS
          obtain ⟨W30, hst, hS9⟩ := fail_store (c := 0) hS.pull2 rfl
          have hld := fail_load hS9
          have HS9 := Lib.hid hS9.drop
          clear hS hS9
          go_wp2_with (refine wpList_store_run (t := 46) rfl rfl rfl rfl hst ?_)
          refine ret_cell rfl rfl hld rfl ?_
          exact ⟨rfl, HS9.out⟩
        · have hS : Sat B w0 (V16.alloc (.cells (Value.agg Q0).cells 67)) (P8 V16.heap.size • P16 g16 • PB • PX • PL • PU • FX) := H8.out _ _ hS
          have hC9 := HC.out _ _ (hS.to (by ac_rfl : _ = PB • PX • P8 V16.heap.size • P16 g16 • PL • PU • FX))
          refine fork_act rfl rfl (fun K' hK => wp_buildSlice_one (v := .agg Q0) (sz := 40) rfl rfl Tryd.underlying77 hz2 HQS.out (by decide) (by decide) (hK _ _ hC9 ?_))
          clear hK K' hC9
          generalize V16.heap.size = g8 at *
          generalize V16.alloc (.cells (Value.agg Q0).cells 67) = V8 at *
          go_simp
          refine tree_leaf ?_
          obtain ⟨A6, c6, W6, hr6, hS⟩ := H6.out _ _ (hS.to (by ac_rfl : _ = PL • P8 g8 • P16 g16 • PB • PX • PU • FX))
          have hC9 := HC.out _ _ (hS.to (by ac_rfl : _ = PB • PX • P6 A6 c6 • PL • P8 g8 • P16 g16 • PU • FX))
          refine ord_acts rfl rfl (fun K' hK => wp_append_run _ _ _ rfl rfl rfl hr6 (hK _ _ hC9 ?_))
          clear hK K' hC9
          go_simp
          obtain ⟨A9, c9, W9, hr9, hS⟩ := H9.out _ _ _ _ _ (hS.to (by ac_rfl : _ = P6 A6 c6 • P8 g8 • PL • P16 g16 • PB • PX • PU • FX))
          have hC9 := HC.out _ _ (hS.to (by ac_rfl : _ = PB • PX • P9 A9 c9 • P8 g8 • PL • P16 g16 • PU • FX))
          refine ord_acts rfl rfl (fun K' hK => wp_append_run _ _ _ rfl rfl rfl hr9 (hK _ _ hC9 ?_))
          clear hK K' hC9
          go_simp
          obtain ⟨A14, c14, W14, hr14, hS⟩ := H14.out _ _ (hS.to (by ac_rfl : _ = PU • P9 A9 c9 • P8 g8 • PL • P16 g16 • PB • PX • FX))
          have hC9 := HC.out _ _ (hS.to (by ac_rfl : _ = PB • PX • P14 A14 c14 • PU • P9 A9 c9 • P8 g8 • PL • P16 g16 • FX))
          refine ord_acts rfl rfl (fun K' hK => wp_append_run _ _ _ rfl rfl rfl hr14 (hK _ _ hC9 ?_))
          clear hK K' hC9
          go_simp
          obtain ⟨A17, c17, W17, hr17, hS⟩ := H17.out _ _ _ _ _ (hS.to (by ac_rfl : _ = P14 A14 c14 • P16 g16 • PU • P9 A9 c9 • P8 g8 • PL • PB • PX • FX))
          refine ord_seals rfl rfl (fun K' hK => wp_append_run _ _ _ rfl rfl rfl hr17 (hK (fun _ => True) _ _ trivial ?_))
          clear hK K'
          go_simp
          iterate 2 (refine ord_pure rfl rfl rfl (fun K' hK => ?_); go_big_quiet_op; refine hK _ ?_; clear hK K')
          obtain ⟨W20, hr20, hS⟩ := H20.out _ _ A9 c9 (hS.to (by ac_rfl : _ = PB • P17 A17 c17 • P16 g16 • PU • P9 A9 c9 • P8 g8 • PL • PX • FX))
          refine ord_store rfl rfl rfl rfl (p := .pointer (some ⟨b, 1, none⟩)) (v := .slice A9 (R.length + 1) c9) rfl rfl hr20 (fun _ => True) trivial ?_
          go_simp
          iterate 2 (refine ord_pure rfl rfl rfl (fun K' hK => ?_); go_big_quiet_op; refine hK _ ?_; clear hK K')
          obtain ⟨W23, hr23, hS⟩ := H23.out _ _ A9 c9 A17 c17 hS
          refine ord_store rfl rfl rfl rfl (p := .pointer (some ⟨b, 2, none⟩)) (v := .slice A17 (R.length + 1) c17) rfl rfl hr23 (fun _ => True) trivial ?_
          go_simp
          refine ord_nil ?_
          have hS := HEND.out _ _ _ _ _ _ next (hS.to (by ac_rfl : _ = PB2 A9 c9 A17 c17 • P9 A9 c9 • P17 A17 c17 • P16 g16 • PU • P8 g8 • PL • PX • FX))
          have hS := hS.pull2.drop.pull2.drop.pull2.drop.pull2.drop.pull2.drop
          rw [hFX] at hS
          obtain ⟨W30, hst, hS9⟩ := fail_store (c := 0) hS.pull2 rfl
          have hld := fail_load hS9
          have HS9 := Lib.hid hS9.drop
          clear hS hS9
          go_wp2_with (refine wpList_store_run (t := 46) rfl rfl rfl rfl hst ?_)
          refine ret_cell rfl rfl hld rfl ?_
          exact ⟨rfl, HS9.out⟩
  · have ha : R.any (isQ q) = true := by rw [List.any_eq_true]; exact ⟨x, List.mem_of_getElem? h1, h2⟩
    have hx0 : x.key = q := of_decide_eq_true h2
    have hkl := (List.getElem?_eq_some_iff.1 h1).1
    have hks := setKey_set hn h1 hx0 u
    rw [h3] at c1
    unfold addC addR
    rw [ha]
    simp only [if_true]
    have hkz : (k : Int) < R.length := by omega
    have hk0 : decide ((0 : Int) ≤ k) = true := decide_eq_true (by omega)
    have HKS := Lib.hid hks
    have HKK := Lib.hid (setKey_kc R q u)
    have HSL : Hid ((setKey R q u).length = R.length) := Lib.hid (by simp [setKey])
    clear h h1 h2 h3 hpl ha HPP hz2 hx0 hks hn
    generalize q.enc.toArray = Q0 at *
    go_enter Tryd.func54, Tryd.ntmps54
    go_wp2_with (refine wpList_load_run (t := 67) rfl rfl rfl hl1 ?_)
    refine c1.mono ?_
    rintro e w1 ⟨rfl, hS1⟩
    clear c1 hl1 hx
    obtain ⟨A, c, A', c', hS2⟩ := hS1.qref_open
    have d2 : w1.cell? ⟨b, 2, none⟩ = some (.slice A' R.length c') := cell_heap hS2.heap rfl
    obtain ⟨v1, w2, hr1, hA1⟩ := (arr_nil (e := 23) (sz := 1) hS2).append (m := R.length) (news := R.flatMap dueC) (t := 22) (ty := 22) (P := Tryd.prog) (x := .slice A' R.length c') Tryd.underlying22 u64_zero (by simp [Value.cells]) (by decide) hS2.pull3.arr_reads (flat_dueC R) (dueC_one R) (by unfold maxLen; omega) (by omega)
    rw [Nat.zero_add, List.nil_append] at hA1
    rcases hA1.arr_open with ⟨_, h0, _, _⟩ | ⟨g, cap, cur, rfl, q1, q2, q3, q4, hA2⟩
    · omega
    obtain ⟨w3, hr2, hA3⟩ := one_store (o := 2) (ty := 22) (u := .slice (some ⟨g, 0, none⟩) R.length cap) hA2.pull2 (by kernel_rfl) (by simp) rfl rfl
    have d3 : w3.cell? ⟨b, 2, none⟩ = some (.slice (some ⟨g, 0, none⟩) R.length cap) := cell_heap hA3.heap rfl
    obtain ⟨w4, hr3, hA4⟩ := one_store (o := k) (ty := 23) (u := .int .u64 u) hA3.pull2 (by kernel_rfl) (by omega) rfl rfl
    have hcur := set_dues (k := k) (x := x) q4 u
    have hA5 : Sat B w0 w4 (qref b n (setKey R q u) • blk (w.heap.size + 1) (.cells #[.int .i64 0, .int .i64 0, .bool false] 46) • F) := by
      refine Sat.qref_shut (v := .slice A R.length c) (u := .slice (some ⟨g, 0, none⟩) R.length cap) ?_
      have h7 := Sat.arr_shut (xs := (R.set k { x with due := u }).flatMap dueC) q1 q2 (by simpa using q3) hcur hA4
      rw [HSL.out, HKK.out, HKS.out]
      have h8 := (h7.to (by ac_rfl : _ = blk w.heap.size (.cells Q0 67) • arr 23 1 (.slice A' R.length c') R.length (R.flatMap dueC) • blk b (.cells (#[Value.int .i64 n, .slice A R.length c, .slice A' R.length c'].setIfInBounds 2 (.slice (some ⟨g, 0, none⟩) R.length cap)) 86) • arr 67 40 (.slice A R.length c) R.length (R.flatMap keyC) • arr 23 1 (.slice (some ⟨g, 0, none⟩) R.length cap) R.length ((R.set k { x with due := u }).flatMap dueC) • blk (w.heap.size + 1) (.cells #[.int .i64 0, .int .i64 0, .bool false] 46) • F)).drop.drop
      exact h8
    obtain ⟨w5, hst, hS9⟩ := fail_store (c := 0) hA5.pull2 rfl
    have hld := fail_load hS9
    have HS9 := Lib.hid hS9.drop
    generalize R.length = sl at *
    clear hS9 hA5 hA4 hA3 hA2 hA1 hS2 hS1 hcur q3 q4
    go_wp2_with (refine wpList_append_run rfl _ _ _ rfl rfl rfl hr1 (stop_ ?_))
    unfold Stop
    go_wp2_with (refine wpList_store_run (t := 22) rfl rfl rfl rfl hr2 (stop_ ?_))
    unfold Stop
    go_wp2_with (refine wpList_store_run (t := 23) rfl rfl rfl rfl hr3 (stop_ ?_))
    unfold Stop
    go_wp2_with (refine wpList_store_run (t := 46) rfl rfl rfl rfl hst ?_)
    refine ret_cell rfl rfl hld rfl ?_
    exact ⟨rfl, HS9.out⟩
end
end Go.Proofs.YtepaanpdjadakaaDoor
