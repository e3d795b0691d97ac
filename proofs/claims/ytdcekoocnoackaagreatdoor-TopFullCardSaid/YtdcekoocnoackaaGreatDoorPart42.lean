import Derived.Test.YtdcekoocnoackaaGreatDoorPart41
import Derived.Test.YtdcekoocnoackaaGreatDoorPart27

/-! udp.ask, udp.Parse. -/
namespace Go.Proofs.YtdcekoocnoackaaGreatDoor
open Go Go.RowKit

theorem dgr_byt (p : Int) (h1 : 0 ≤ p) (h2 : p ≤ 1000) : Byt8 (dgrB p) := by
  intro x hx
  simp only [dgrB, List.mem_cons, List.not_mem_nil, or_false] at hx
  rcases hx with rfl | rfl | rfl | rfl | rfl | rfl | rfl | rfl <;> constructor <;> omega
theorem dgr_sum (p : Int) : 3100 + wsum (dgrB p) = 65535 := by simp only [dgrB, wsum]; omega
section
variable {W : World} {g o c : Nat}
theorem dgr_0 (p : Int) (h1 : 0 ≤ p) (h2 : p ≤ 1000) (hv : Vw W g o (dgrB p)) (hc : 8 ≤ c) : Calls Tryz.prog 206 #[.slice (some ⟨g, o, none⟩) 8 c, .int .i64 0] W fun e w' => e = .returned (.tuple #[.int .i64 p, .nilIface]) ∧ w' = W := by
  have := u16_any (k := 0) hv rfl rfl (by omega) (by omega) (by omega) (by omega) (by simp [dgrB]) hc
  rw [show p / 256 * 256 + p % 256 = p by omega] at this
  exact this
theorem dgr_2 (p : Int) (hv : Vw W g o (dgrB p)) (hc : 8 ≤ c) : Calls Tryz.prog 206 #[.slice (some ⟨g, o, none⟩) 8 c, .int .i64 2] W fun e w' => e = .returned (.tuple #[.int .i64 6, .nilIface]) ∧ w' = W := by
  exact u16_any (k := 2) hv rfl rfl (by decide) (by decide) (by decide) (by decide) (by simp [dgrB]) hc
theorem dgr_4 (p : Int) (hv : Vw W g o (dgrB p)) (hc : 8 ≤ c) : Calls Tryz.prog 206 #[.slice (some ⟨g, o, none⟩) 8 c, .int .i64 4] W fun e w' => e = .returned (.tuple #[.int .i64 8, .nilIface]) ∧ w' = W := by
  exact u16_any (k := 4) hv rfl rfl (by decide) (by decide) (by decide) (by decide) (by simp [dgrB]) hc
theorem dgr_6 (p : Int) (h1 : 0 ≤ p) (h2 : p ≤ 1000) (hv : Vw W g o (dgrB p)) (hc : 8 ≤ c) : Calls Tryz.prog 206 #[.slice (some ⟨g, o, none⟩) 8 c, .int .i64 6] W fun e w' => e = .returned (.tuple #[.int .i64 (62421 - p), .nilIface]) ∧ w' = W := by
  have := u16_any (k := 6) hv rfl rfl (by omega) (by omega) (by omega) (by omega) (by simp [dgrB]) hc
  rw [show (62421 - p) / 256 * 256 + (62421 - p) % 256 = 62421 - p by omega] at this
  exact this
end
attribute [local irreducible] wpOrd
set_option maxRecDepth 8000 in
set_option maxHeartbeats 6000000 in
theorem uask_any {B : Nat} {w0 w : World} {F : HP} {g o c : Nat} (p : Int) (h1 : 0 ≤ p) (h2 : p ≤ 1000) (h : Sat B w0 w F) (hsh : Shows B w0 F g o (dgrB p)) (hc : 8 ≤ c) :
    Calls Tryz.prog 217 #[.slice (some ⟨g, o, none⟩) 8 c, .agg adA, .agg adB] w fun e w' => e = .returned (.tuple #[.int .i64 8, .nilIface]) ∧ Sat B w0 w' F := by
  have hS2 := (h.alloc (.cells adA 36)).alloc (.cells adB 36)
  rw [World.size_alloc] at hS2
  have hsh2 : Shows B w0 (blk (w.heap.size + 1) (.cells adB 36) • blk w.heap.size (.cells adA 36) • F) g o (dgrB p) := hsh.more.more
  have hSA : adA.size = 17 := rfl
  have hSB : adB.size = 17 := rfl
  have hld : ∀ (W : World) (b : Nat) (S : Array Value), S.size = 17 → W.heap[b]? = some (.cells S 36) → (Instr.loadAt 36 (.pointer (some ⟨b, 0, none⟩))).run Tryz.prog W = .ok (.agg S) W := fun W b S hS hW =>
    run_loadAt_row (cs := S.toList) hW Tryz.underlying36 rfl (by rw [Array.length_toList, hS]; kernel_rfl) (fun j u hu => by simpa using hu)
  have cov : ∀ (W : World), Sat B w0 W (blk (w.heap.size + 1) (.cells adB 36) • blk w.heap.size (.cells adA 36) • F) → Calls Tryz.prog 264 #[.agg adA, .agg adB, .int .i64 17, .slice (some ⟨g, o, none⟩) 8 c] W fun e w' => e = .returned (.int .i64 0) ∧ Sat B w0 w' (blk (w.heap.size + 1) (.cells adB 36) • blk w.heap.size (.cells adA 36) • F) := by
    intro W hW
    have := pover_any (cb := c) (dgr_byt p h1 h2) rfl (by rw [dgr_sum]; decide) hW hsh2
    rw [dgr_sum] at this
    exact this
  have c4 := dgr_4 p (hsh2 _ hS2) hc
  have c6 := dgr_6 p h1 h2 (hsh2 _ hS2) hc
  generalize hq1 : w.heap.size = q1 at *
  generalize hq2 : q1 + 1 = q2 at *
  generalize adA = SA at *
  generalize adB = SB at *
  generalize hW : (w.alloc (.cells SA 36)).alloc (.cells SB 36) = W at *
  have en : ((62421 - p : Int) == 0) = false := by rw [beq_eq_false_iff_ne]; omega
  have en2 : ((62421 - p : Int) != 0) = true := by simp [bne, en]
  clear h hsh2
  go_enter Tryz.func217, Tryz.ntmps217
  go_wp2_with fail
  refine c4.mono ?_
  rintro e w4 ⟨rfl, rfl⟩
  clear c4
  go_wp2_with fail
  refine c6.mono ?_
  rintro e w6 ⟨rfl, rfl⟩
  clear c6
  go_wp2_with fail
  try go_frame
  refine wp_region_ord [(0, .pure), (1, .pure), (2, .pure), (3, .pure), (4, .quiet), (5, .pure), (6, .pure), (7, .pure), (8, .pure), (9, .pure), (10, .quiet), (11, .quiet), (12, .pure), (13, .pure), (14, .pure), (15, .acts), (16, .pure), (17, .pure), (18, .pure), (19, .pure)] (by kernel_rfl) (by kernel_rfl)
    (fun w' => w'.heap[q1]? = some (.cells SA 36) ∧ w'.heap[q2]? = some (.cells SB 36)) ⟨hS2.drew.pull2.heap, hS2.drew.heap⟩ ?_
  iterate 3 (refine ord_pure rfl rfl rfl (fun K' hK => ?_); go_big_quiet_op; refine hK _ ?_; clear hK K')
  iterate 2 (refine ord_skip' rfl rfl (fun K' hK => ?_); go_simp; refine hK _ ?_; clear hK K')
  iterate 5 (refine ord_pure rfl rfl rfl (fun K' hK => ?_); go_big_quiet_op; refine hK _ ?_; clear hK K')
  refine ord_load (t := 36) rfl rfl rfl (p := .pointer (some ⟨q1, 0, none⟩)) (v := .agg SA) rfl (fun w' hC => hld _ _ _ hSA hC.1) (fun K' hK => ?_)
  go_simp
  refine hK _ ?_
  clear hK K'
  refine ord_load (t := 36) rfl rfl rfl (p := .pointer (some ⟨q2, 0, none⟩)) (v := .agg SB) rfl (fun w' hC => hld _ _ _ hSB hC.2) (fun K' hK => ?_)
  go_simp
  refine hK _ ?_
  clear hK K'
  iterate 3 (refine ord_pure rfl rfl rfl (fun K' hK => ?_); go_big_quiet_op; refine hK _ ?_; clear hK K')
  refine ord_acts rfl rfl (fun K' hK => ?_)
  go_simp
  refine (cov _ hS2.drew).mono ?_
  rintro e u7 ⟨rfl, hS7⟩
  refine hK _ _ (⟨hS7.pull2.heap, hS7.heap⟩) ?_
  clear hK K'
  go_simp
  iterate 4 (refine ord_pure rfl rfl rfl (fun K' hK => ?_); go_big_quiet_op; refine hK _ ?_; clear hK K')
  refine ord_nil ?_
  have HF := Lib.hid hS7.drop.drop
  clear hS7 hS2 cov
  go_wp2_with fail
  go_ret2
  exact ⟨rfl, HF.out⟩
set_option maxRecDepth 8000 in
set_option maxHeartbeats 2000000 in
theorem clone8_empty (X : Option Addr) (m : Nat) (hX : X.isNone = false) (w : World) : Calls Tryz.prog 216 #[.slice X 0 m] w fun e w' => ∃ A c, e = .returned (.slice A 0 c) ∧ Below w.heap.size w w' := by
  cases X with
  | none => cases hX
  | some a =>
    have h0 := (Sat.start w).alloc (.cells #[] 5)
    have hA : Sat w.heap.size w _ (byt (.slice (some ⟨w.heap.size, 0, none⟩) 0 0) [] • emp) := Sat.arr_shut (n := 0) (cap := 0) (xs := []) (Nat.le_refl _) (Nat.zero_le _) rfl rfl h0
    obtain ⟨v1, w1, hr, hS⟩ := hA.bytApp (b := []) (x := .slice (some a) 0 m) (.inr ⟨a, m, rfl, fun j u hu => by simp [byv] at hu⟩) (by simp)
    obtain ⟨A', c', rfl⟩ := hS.bytForm
    have hq := run_eqlS_full w 32 5 a 0 m Tryz.underlying32
    have hB := hS.below
    clear h0 hA hS
    go_enter Tryz.func216, Tryz.ntmps216
    go_wp2_with (refine wpList_append_run rfl _ _ _ rfl rfl rfl hr (stop_ ?_))
    unfold Stop
    go_wp2_with fail
    go_ret
    exact ⟨A', c', rfl, hB⟩
set_option maxRecDepth 8000 in
set_option maxHeartbeats 6000000 in
theorem udpp_any {B : Nat} {w0 w : World} {F : HP} {g o c : Nat} (p : Int) (h1 : 0 ≤ p) (h2 : p ≤ 1000) (h : Sat B w0 w F) (hsh : Shows B w0 F g o (dgrB p)) (hc : 8 ≤ c) :
    Calls Tryz.prog 146 #[.slice (some ⟨g, o, none⟩) 8 c, .agg adA, .agg adB] w fun e w' => ∃ A d, e = .returned (.tuple #[.agg #[.int .i64 p, .int .i64 6, .slice A 0 d], .nilIface]) ∧ Sat B w0 w' F := by
  have hS3 := ((h.alloc (.cells adA 36)).alloc (.cells adB 36)).alloc (.cells #[.int .i64 0, .int .i64 0, .slice none 0 0] 126)
  simp only [World.size_alloc] at hS3
  have hld : ∀ (W : World) (b : Nat) (S : Array Value), S.size = 17 → W.heap[b]? = some (.cells S 36) → (Instr.loadAt 36 (.pointer (some ⟨b, 0, none⟩))).run Tryz.prog W = .ok (.agg S) W := fun W b S hS hW =>
    run_loadAt_row (cs := S.toList) hW Tryz.underlying36 rfl (by rw [Array.length_toList, hS]; kernel_rfl) (fun j u hu => by simpa using hu)
  have hl1 := hld _ _ _ rfl hS3.pull3.heap
  have hl2 := hld _ _ _ rfl hS3.pull2.heap
  have c1 := uask_any p h1 h2 hS3 hsh.more.more.more hc
  have hshF : Shows B w0 (blk (w.heap.size + 1 + 1) (.cells #[.int .i64 0, .int .i64 0, .slice none 0 0] 126) • blk (w.heap.size + 1) (.cells adB 36) • blk w.heap.size (.cells adA 36) • F) g o (dgrB p) := hsh.more.more.more
  generalize hq : w.heap.size = q at *
  generalize adA = SA at *
  generalize adB = SB at *
  clear h hld
  go_enter Tryz.func146, Tryz.ntmps146
  go_wp2_with (first | (refine wpList_load_run (t := 36) rfl rfl rfl hl1 ?_) | (refine wpList_load_run (t := 36) rfl rfl rfl hl2 ?_))
  refine c1.mono ?_
  rintro e w1 ⟨rfl, hS4⟩
  have hS5 := hS4.alloc_ (.cells #[.pointer none] 214)
  have c0 := dgr_0 p h1 h2 (hshF _ hS5) hc
  have c2 := dgr_2 p (hshF _ hS5) hc
  clear c1 hl1 hl2 hS3 hS4
  go_wp2_with fail
  refine (as_nil _ _).mono ?_
  rintro e w2 ⟨rfl, rfl⟩
  go_wp2_with fail
  refine c0.mono ?_
  rintro e w3 ⟨rfl, rfl⟩
  clear c0
  go_wp2_with fail
  refine c2.mono ?_
  rintro e w4 ⟨rfl, rfl⟩
  clear c2
  go_wp2_with fail
  all_goals
    refine (clone8_empty _ _ rfl _).mono ?_
    rintro e w5 ⟨A, d, rfl, hb5⟩
    have hS6 := hS5.below_ hb5
    have hst := run_storeAt_row (P := Tryz.prog) (o := 0) (ty := 126) (v := .agg #[.int .i64 p, .int .i64 6, .slice A 0 d]) hS6.heap (by kernel_rfl) (by simp [Value.cells]) (by simp [Value.cells, Value.oneCell'])
    have hS9 := hS6.setRow (cs := #[.int .i64 p, .int .i64 6, .slice A 0 d])
    simp only [Value.cells] at hst
    rw [show splice (#[.int .i64 0, .int .i64 0, .slice none 0 0] : Array Value) 0 (#[.int .i64 p, .int .i64 6, .slice A 0 d] : Array Value).toList = #[.int .i64 p, .int .i64 6, .slice A 0 d] by rfl] at hst
    have hl9 : (Instr.loadAt 126 (.pointer (some ⟨q + 1 + 1, 0, none⟩))).run Tryz.prog (w5.setRow (q + 1 + 1) #[.int .i64 p, .int .i64 6, .slice A 0 d]) = .ok (.agg #[.int .i64 p, .int .i64 6, .slice A 0 d]) (w5.setRow (q + 1 + 1) #[.int .i64 p, .int .i64 6, .slice A 0 d]) :=
      run_loadAt_row (cs := [.int .i64 p, .int .i64 6, .slice A 0 d]) hS9.heap Tryz.underlying126 rfl (by kernel_rfl) (fun j u hu => by simpa using hu)
    have HF := Lib.hid hS9.drop.drop.drop
    clear hS5 hS6 hS9 hb5 hsh hshF
    go_wp2_with (refine wpList_store_run (t := 126) rfl rfl rfl rfl hst (stop_ ?_))
    unfold Stop
    go_wp2_with fail
    refine ret_cell_tmp rfl rfl rfl hl9 rfl ⟨A, d, rfl, HF.out⟩
end Go.Proofs.YtdcekoocnoackaaGreatDoor
