import Derived.Test.YtdcekoocnoackaaGreatDoorPart48
import Derived.Test.YtdcekoocnoackaaGreatDoorPart32

/-! The flows of TopFull; its steps. -/
namespace Go.Proofs.YtdcekoocnoackaaGreatDoor
open Go Go.RowKit

/-- The first m flows, each as it was begun. -/
def FR (m : Nat) (R : List FIt) : Prop := R.map (·.key.tup) = (List.range m).map (fun j : Nat => tuT (5 + j)) ∧ ∀ x ∈ R, x.key.ph = ⟨6, 0⟩
theorem FR.nil : FR 0 [] := ⟨rfl, by simp⟩
theorem FR.len {m : Nat} {R : List FIt} (h : FR m R) : R.length = m := by
  have := congrArg List.length h.1
  simpa using this
theorem FR.kn {m : Nat} {R : List FIt} (h : FR m R) : KNW R := by
  unfold KNW List.Nodup
  rw [h.1, List.pairwise_map]
  refine List.nodup_range.imp ?_
  intro a b e e2
  have := tuT_inj e2
  omega
theorem FR.yes {m i : Nat} {R : List FIt} (h : FR m R) (hi : i < m) : R.any (isW (tuT (5 + i))) = true := by
  rw [any_tup, h.1]
  exact List.mem_map.2 ⟨i, List.mem_range.2 hi, rfl⟩
theorem FR.no {m i : Nat} {R : List FIt} (h : FR m R) (hi : m ≤ i) : R.any (isW (tuT (5 + i))) = false := by
  cases ha : R.any (isW (tuT (5 + i))) with
  | false => rfl
  | true =>
    rw [any_tup, h.1] at ha
    obtain ⟨j, hj, e⟩ := List.mem_map.1 ha
    have := tuT_inj e
    have := List.mem_range.1 hj
    omega
theorem FR.gets {m i : Nat} {R : List FIt} (h : FR m R) (hi : i < m) : ∃ f : Flw, getV R (tuT (5 + i)) = .tuple #[.agg f.enc.toArray, .bool true] := by
  rcases get_cases R (tuT (5 + i)) with ⟨_, _, ha⟩ | ⟨k, x, _, _, _, hg, _⟩
  · rw [h.yes hi] at ha; cases ha
  · exact ⟨_, hg⟩
theorem FR.gone {m i : Nat} {R : List FIt} (h : FR m R) (hi : m ≤ i) : getV R (tuT (5 + i)) = .tuple #[.agg zFlw.enc.toArray, .bool false] := by
  rcases get_cases R (tuT (5 + i)) with ⟨_, hg, _⟩ | ⟨k, x, _, _, _, _, ha⟩
  · exact hg
  · rw [h.no hi] at ha; cases ha
theorem FR.beg {m room : Nat} {R : List FIt} {next : Int} (x : Nat) (h : FR m R) (hm : m < room) : FR (m + 1) (begR room R next x (tuT (5 + m)) 0 0) ∧ begN room R next (tuT (5 + m)) 0 = next + 1 := by
  have h0 : begC room R (tuT (5 + m)) 0 = 0 := by
    unfold begC
    rw [show beginsF (tuT (5 + m)).proto 0 = true from rfl, h.no (Nat.le_refl m), h.len]
    simp
    omega
  unfold begR begN
  rw [if_pos h0, if_pos h0]
  refine ⟨⟨?_, ?_⟩, rfl⟩
  · rw [List.map_append, h.1, List.range_succ, List.map_append]
    rfl
  · intro y hy
    rcases List.mem_append.1 hy with hy | hy
    · exact h.2 y hy
    · rw [List.mem_singleton] at hy
      subst hy
      rfl
theorem FR.see {m i : Nat} {R : List FIt} (h : FR m R) (hi : i < m) : ∃ R', seeR R (tuT (5 + i)) 0 0 0 = (true, R') ∧ FR m R' := by
  rcases find_cases R (tuT (5 + i)) with ⟨hf, _⟩ | ⟨k, x, hx, _, hf, _, _⟩
  · have := h.yes hi
    rw [List.any_eq_true] at this
    obtain ⟨y, hy, e⟩ := this
    exact absurd e (List.find?_eq_none.1 hf y hy)
  · have hph := h.2 x (List.mem_of_getElem? hx)
    have hs : seeF (tuT (5 + i)).proto x.key.ph 0 0 = (true, false, ⟨6, 0⟩) := by rw [hph]; rfl
    unfold seeR
    rw [hf]
    simp only [hs, true_or, if_true]
    refine ⟨_, rfl, ?_, ?_⟩
    · rw [noteR_tups]; exact h.1
    · intro y hy
      unfold noteR at hy
      obtain ⟨z, hz, rfl⟩ := List.mem_map.1 hy
      split
      · rfl
      · exact h.2 z hz
section
variable {B : Nat} {w0 w : World} {F : HP} {fw pol ck pd st fc fl room m i : Nat} {k next : Int} {R : List FIt} {v : Value} {tx : ByteArray}
theorem stepNew (hB : 1 < B) (hE : Et w0) (hR : FR m R) (hm : (m : Int) < k) (hr : m < room) (hi : m ≤ 900) (hn : 0 ≤ next ∧ next ≤ 1000) (h : Sat B w0 w (byt v (ethB (5 + m)) • (blk fw (fwB pol ck pd st fc fl k) • blk ck (.cells #[.int .u64 0] 105) • policyH pol • fltab fl room R next) • F)) :
    Calls Tryz.prog 10 #[.pointer (some ⟨fw, 0, none⟩), .agg #[.int .i64 1, .int .i64 0, v, .int .u64 0, .string tx]] w fun e w' => e = .returned (.agg #[.bool true, .int .i64 2]) ∧ ∃ R', FR (m + 1) R' ∧ Sat B w0 w' (blk fw (fwB pol ck pd st fc fl k) • blk ck (.cells #[.int .u64 0] 105) • policyH pol • fltab fl room R' (next + 1) • F) := by
  refine (step_any (vb0 := true) (vc0 := 2) (I := blk fw (fwB pol ck pd st fc fl k) • blk ck (.cells #[.int .u64 0] 105) • policyH pol • fltab fl room R next) (Q := fun x => blk fw (fwB pol ck pd st fc fl k) • blk ck (.cells #[.int .u64 0] 105) • policyH pol • fltab fl room (begR room R next x (tuT (5 + m)) 0 0) (begN room R next (tuT (5 + m)) 0)) (5 + m) (by omega) (by omega) (fun A d W G hG => ?_) h).mono ?_
  · refine (out_fresh (vb0 := true) (vc0 := 2) (Q := fun x => blk fw (fwB pol ck pd st fc fl k) • blk ck (.cells #[.int .u64 0] 105) • policyH pol • fltab fl room (begR room R next x (tuT (5 + m)) 0 0) (begN room R next (tuT (5 + m)) 0)) (5 + m) A d hB hE (hR.gone (Nat.le_refl m)) (fun A d W G hG => ?_) (hG.to (by ac_rfl))).mono ?_
    · refine (fresh_room (5 + m) A d (by omega) hE (by omega) (by rw [hR.len]; exact hm) hG).mono ?_
      rintro e u ⟨rfl, x, hx⟩
      exact ⟨x, rfl, hx.to (by ac_rfl)⟩
    · rintro e u hx
      exact hx
  · rintro e u ⟨x, rfl, hx⟩
    obtain ⟨h1, h2⟩ := hR.beg (next := next) x hr
    rw [h2] at hx
    exact ⟨rfl, _, h1, hx.to (by ac_rfl)⟩
theorem stepFull (hB : 1 < B) (hE : Et w0) (hR : FR m R) (hm : k ≤ (m : Int)) (hmi : m ≤ i) (hi : i ≤ 900) (hn : 0 ≤ next ∧ next ≤ 1000) (h : Sat B w0 w (byt v (ethB (5 + i)) • (blk fw (fwB pol ck pd st fc fl k) • blk ck (.cells #[.int .u64 0] 105) • policyH pol • fltab fl room R next) • F)) :
    Calls Tryz.prog 10 #[.pointer (some ⟨fw, 0, none⟩), .agg #[.int .i64 1, .int .i64 0, v, .int .u64 0, .string tx]] w fun e w' => e = .returned (.agg #[.bool false, .int .i64 8]) ∧ Sat B w0 w' (blk fw (fwB pol ck pd st fc fl k) • blk ck (.cells #[.int .u64 0] 105) • policyH pol • fltab fl room R next • F) := by
  refine (step_any (vb0 := false) (vc0 := 8) (I := blk fw (fwB pol ck pd st fc fl k) • blk ck (.cells #[.int .u64 0] 105) • policyH pol • fltab fl room R next) (Q := fun _ => blk fw (fwB pol ck pd st fc fl k) • blk ck (.cells #[.int .u64 0] 105) • policyH pol • fltab fl room R next) (5 + i) (by omega) (by omega) (fun A d W G hG => ?_) h).mono ?_
  · refine (out_fresh (vb0 := false) (vc0 := 8) (Q := fun _ => blk fw (fwB pol ck pd st fc fl k) • blk ck (.cells #[.int .u64 0] 105) • policyH pol • fltab fl room R next) (5 + i) A d hB hE (hR.gone hmi) (fun A d W G hG => ?_) (hG.to (by ac_rfl))).mono ?_
    · refine (fresh_full (5 + i) A d (by omega) hE (by omega) (by rw [hR.len]; exact hm) hG).mono ?_
      rintro e u ⟨rfl, hx⟩
      exact ⟨0, rfl, hx.to (by ac_rfl)⟩
    · rintro e u hx
      exact hx
  · rintro e u ⟨x, rfl, hx⟩
    exact ⟨rfl, hx.to (by ac_rfl)⟩
theorem stepKnown (hB : 1 < B) (hE : Et w0) (hR : FR m R) (hmi : i < m) (hi : i ≤ 900) (h : Sat B w0 w (byt v (ethB (5 + i)) • (blk fw (fwB pol ck pd st fc fl k) • blk ck (.cells #[.int .u64 0] 105) • policyH pol • fltab fl room R next) • F)) :
    Calls Tryz.prog 10 #[.pointer (some ⟨fw, 0, none⟩), .agg #[.int .i64 1, .int .i64 0, v, .int .u64 0, .string tx]] w fun e w' => e = .returned (.agg #[.bool true, .int .i64 1]) ∧ ∃ R', FR m R' ∧ Sat B w0 w' (blk fw (fwB pol ck pd st fc fl k) • blk ck (.cells #[.int .u64 0] 105) • policyH pol • fltab fl room R' next • F) := by
  obtain ⟨R', hs, hR'⟩ := hR.see hmi
  obtain ⟨f, hf⟩ := hR.gets hmi
  obtain ⟨f', hf'⟩ := hR'.gets hmi
  refine (step_any (vb0 := true) (vc0 := 1) (I := blk fw (fwB pol ck pd st fc fl k) • blk ck (.cells #[.int .u64 0] 105) • policyH pol • fltab fl room R next) (Q := fun _ => blk fw (fwB pol ck pd st fc fl k) • blk ck (.cells #[.int .u64 0] 105) • policyH pol • fltab fl room R' next) (5 + i) (by omega) (by omega) (fun A d W G hG => ?_) h).mono ?_
  · refine (out_going (vb0 := true) (vc0 := 1) (Q := fun _ => blk fw (fwB pol ck pd st fc fl k) • blk ck (.cells #[.int .u64 0] 105) • policyH pol • fltab fl room R' next) (5 + i) A d hB hE hf (fun A d W G hG => ?_) (hG.to (by ac_rfl))).mono ?_
    · refine (going_any (5 + i) A d hs hf' hR.kn hG).mono ?_
      rintro e u ⟨rfl, hx⟩
      exact ⟨0, rfl, hx.to (by ac_rfl)⟩
    · rintro e u hx
      exact hx
  · rintro e u ⟨x, rfl, hx⟩
    exact ⟨rfl, R', hR', hx.to (by ac_rfl)⟩
set_option maxRecDepth 8000 in
set_option maxHeartbeats 4000000 in
theorem flowsF_any (h : Sat B w0 w (blk fw (fwB pol ck pd st fc fl k) • blk ck (.cells #[.int .u64 0] 105) • policyH pol • fltab fl room R next • F)) : Calls Tryz.prog 11 #[.pointer (some ⟨fw, 0, none⟩)] w fun e w' => ∃ A c, e = .returned (.slice A R.length c) ∧ Sat B w0 w' F := by
  have c1 := flAll_any (h.to (by ac_rfl : _ = fltab fl room R next • (blk fw (fwB pol ck pd st fc fl k) • blk ck (.cells #[.int .u64 0] 105) • policyH pol • F)))
  unfold fwB at *
  have d5 : w.cell? ⟨fw, 5, none⟩ = some (.pointer (some ⟨fl, 0, none⟩)) := cell_heap h.heap rfl
  clear h
  go_enter Tryz.func11, Tryz.ntmps11
  go_wp2_with fail
  refine c1.mono ?_
  rintro e u ⟨v, rfl, hU⟩
  obtain ⟨A, c, rfl⟩ := hU.arr_form
  have HF := Lib.hid (hU.drop.drop.drop.drop.drop)
  clear hU c1
  go_wp2_with fail
  go_ret
  exact ⟨A, c, rfl, HF.out⟩
end
end Go.Proofs.YtdcekoocnoackaaGreatDoor

/-! V4; the frame of TopFull. -/
namespace Go.Proofs.YtdcekoocnoackaaGreatDoor
open Go Go.RowKit

attribute [local irreducible] wpOrd
set_option maxRecDepth 8000 in
set_option maxHeartbeats 4000000 in
theorem v4_n (w : World) : Calls Tryz.prog 9 #[.int .u8 1, .int .u8 1, .int .u8 1, .int .u8 1] w fun e w' => e = .returned (.agg adA) ∧ Below w.heap.size w w' := by
  have hst : ∀ z : Array Value, z.size = 17 → (Instr.storeAt 36 (.pointer (some ⟨w.heap.size, 0, none⟩)) (.agg #[.bool false, .int .u8 1, .int .u8 1, .int .u8 1, .int .u8 1, .int .u8 0, .int .u8 0, .int .u8 0, .int .u8 0, .int .u8 0, .int .u8 0, .int .u8 0, .int .u8 0, .int .u8 0, .int .u8 0, .int .u8 0, .int .u8 0])).run Tryz.prog (w.alloc (.cells z 36)) = .ok () (w.alloc (.cells #[.bool false, .int .u8 1, .int .u8 1, .int .u8 1, .int .u8 1, .int .u8 0, .int .u8 0, .int .u8 0, .int .u8 0, .int .u8 0, .int .u8 0, .int .u8 0, .int .u8 0, .int .u8 0, .int .u8 0, .int .u8 0, .int .u8 0] 36)) :=
    fun z hz => run_storeAt_new (v := .agg #[.bool false, .int .u8 1, .int .u8 1, .int .u8 1, .int .u8 1, .int .u8 0, .int .u8 0, .int .u8 0, .int .u8 0, .int .u8 0, .int .u8 0, .int .u8 0, .int .u8 0, .int .u8 0, .int .u8 0, .int .u8 0, .int .u8 0]) (by kernel_rfl) (by rw [hz]; rfl) (by decide)
  have hl : (Instr.loadAt 36 (.pointer (some ⟨w.heap.size, 0, none⟩))).run Tryz.prog (w.alloc (.cells #[.bool false, .int .u8 1, .int .u8 1, .int .u8 1, .int .u8 1, .int .u8 0, .int .u8 0, .int .u8 0, .int .u8 0, .int .u8 0, .int .u8 0, .int .u8 0, .int .u8 0, .int .u8 0, .int .u8 0, .int .u8 0, .int .u8 0] 36)) = .ok (.agg adA) (w.alloc (.cells #[.bool false, .int .u8 1, .int .u8 1, .int .u8 1, .int .u8 1, .int .u8 0, .int .u8 0, .int .u8 0, .int .u8 0, .int .u8 0, .int .u8 0, .int .u8 0, .int .u8 0, .int .u8 0, .int .u8 0, .int .u8 0, .int .u8 0] 36)) :=
    run_loadAt_row (cs := adA.toList) (heap_alloc_new _ _) Tryz.underlying36 rfl (by kernel_rfl) (fun j u hu => by simpa [adA] using hu)
  go_enter Tryz.func9, Tryz.ntmps9
  go_wp2_with (refine wpList_store_run (t := 36) rfl rfl rfl rfl (hst _ rfl) ?_)
  refine ret_cell rfl rfl hl rfl ⟨rfl, (Below.refl _ _).alloc (Nat.le_refl _) _⟩
set_option maxRecDepth 8000 in
set_option maxHeartbeats 4000000 in
theorem v4_m (w : World) : Calls Tryz.prog 9 #[.int .u8 10, .int .u8 0, .int .u8 0, .int .u8 1] w fun e w' => e = .returned (.agg adB) ∧ Below w.heap.size w w' := by
  have hst : ∀ z : Array Value, z.size = 17 → (Instr.storeAt 36 (.pointer (some ⟨w.heap.size, 0, none⟩)) (.agg #[.bool false, .int .u8 10, .int .u8 0, .int .u8 0, .int .u8 1, .int .u8 0, .int .u8 0, .int .u8 0, .int .u8 0, .int .u8 0, .int .u8 0, .int .u8 0, .int .u8 0, .int .u8 0, .int .u8 0, .int .u8 0, .int .u8 0])).run Tryz.prog (w.alloc (.cells z 36)) = .ok () (w.alloc (.cells #[.bool false, .int .u8 10, .int .u8 0, .int .u8 0, .int .u8 1, .int .u8 0, .int .u8 0, .int .u8 0, .int .u8 0, .int .u8 0, .int .u8 0, .int .u8 0, .int .u8 0, .int .u8 0, .int .u8 0, .int .u8 0, .int .u8 0] 36)) :=
    fun z hz => run_storeAt_new (v := .agg #[.bool false, .int .u8 10, .int .u8 0, .int .u8 0, .int .u8 1, .int .u8 0, .int .u8 0, .int .u8 0, .int .u8 0, .int .u8 0, .int .u8 0, .int .u8 0, .int .u8 0, .int .u8 0, .int .u8 0, .int .u8 0, .int .u8 0]) (by kernel_rfl) (by rw [hz]; rfl) (by decide)
  have hl : (Instr.loadAt 36 (.pointer (some ⟨w.heap.size, 0, none⟩))).run Tryz.prog (w.alloc (.cells #[.bool false, .int .u8 10, .int .u8 0, .int .u8 0, .int .u8 1, .int .u8 0, .int .u8 0, .int .u8 0, .int .u8 0, .int .u8 0, .int .u8 0, .int .u8 0, .int .u8 0, .int .u8 0, .int .u8 0, .int .u8 0, .int .u8 0] 36)) = .ok (.agg adB) (w.alloc (.cells #[.bool false, .int .u8 10, .int .u8 0, .int .u8 0, .int .u8 1, .int .u8 0, .int .u8 0, .int .u8 0, .int .u8 0, .int .u8 0, .int .u8 0, .int .u8 0, .int .u8 0, .int .u8 0, .int .u8 0, .int .u8 0, .int .u8 0] 36)) :=
    run_loadAt_row (cs := adB.toList) (heap_alloc_new _ _) Tryz.underlying36 rfl (by kernel_rfl) (fun j u hu => by simpa [adB] using hu)
  go_enter Tryz.func9, Tryz.ntmps9
  go_wp2_with (refine wpList_store_run (t := 36) rfl rfl rfl rfl (hst _ rfl) ?_)
  refine ret_cell rfl rfl hl rfl ⟨rfl, (Below.refl _ _).alloc (Nat.le_refl _) _⟩
set_option maxRecDepth 8000 in
set_option maxHeartbeats 8000000 in
theorem frameI_any {B : Nat} {w0 w : World} {F : HP} (i : Int) (h0 : 0 ≤ i) (h1 : i ≤ 900) (h : Sat B w0 w F) : Calls Tryz.prog 7 #[.int .i64 i] w fun e w' => ∃ v, e = .returned v ∧ Sat B w0 w' (byt v (ethB (5 + i)) • F) := by
  go_enter Tryz.func7, Tryz.ntmps7
  go_upto_region 1 with (fail)
  refine wp_region_seq [(0, .acts), (1, .acts), (2, .pure), (3, .pure), (4, .pure), (5, .pure), (6, .acts), (7, .pure)] (by kernel_rfl)
    (fun _ => True) trivial ?_
  refine ord_acts rfl rfl (fun K' hK => ?_)
  go_simp
  refine (v4_n _).mono ?_
  rintro e u1 ⟨rfl, hb1⟩
  have hS1 := h.below_ hb1
  refine hK _ _ (trivial) ?_
  clear hK K'
  go_simp
  refine ord_acts rfl rfl (fun K' hK => ?_)
  go_simp
  refine (v4_m _).mono ?_
  rintro e u2 ⟨rfl, hb2⟩
  have hS2 := hS1.below_ hb2
  refine hK _ _ (trivial) ?_
  clear hK K'
  go_simp
  iterate 2 (refine ord_pure rfl rfl rfl (fun K' hK => ?_); go_big_quiet_op; refine hK _ ?_; clear hK K')
  refine ord_run (v := .agg (tuC (5 + i)).toArray) rfl rfl (exec_build rfl (vs := [(0, .agg adA), (1, .agg adB), (2, .int .i64 17), (3, .int .i64 (5 + i)), (4, .int .i64 6)]) (by simp [Act.eval]) (by kernel_rfl)) (fun K' hK => ?_)
  go_simp
  refine hK _ ?_
  clear hK K'
  refine ord_run (v := .agg (pkC (5 + i)).toArray) rfl rfl (exec_build rfl (vs := [(0, .agg (tuC (5 + i)).toArray)]) (by simp [Act.eval]) (by kernel_rfl)) (fun K' hK => ?_)
  go_simp
  refine hK _ ?_
  clear hK K'
  refine ord_acts rfl rfl (fun K' hK => ?_)
  go_simp
  refine (frame_any (5 + i) (by omega) (by omega) hS2).mono ?_
  rintro e u3 ⟨v, rfl, hS3⟩
  refine hK _ _ (trivial) ?_
  clear hK K'
  go_simp
  iterate 1 (refine ord_pure rfl rfl rfl (fun K' hK => ?_); go_big_quiet_op; refine hK _ ?_; clear hK K')
  refine ord_nil ?_
  go_wp2_with fail
  go_ret
  exact ⟨v, rfl, hS3⟩
end Go.Proofs.YtdcekoocnoackaaGreatDoor

/-! TopFull: awake. -/
namespace Go.Proofs.YtdcekoocnoackaaGreatDoor
open Go Go.RowKit

attribute [local irreducible] wpOrd
set_option maxRecDepth 8000 in
set_option maxHeartbeats 8000000 in
theorem awakeT_any (w : World) (hM : Mx w) (hE : Et w) : Calls Tryz.prog 6 #[] w fun e w' => e = .returned (.bool true) ∧ Below w.heap.size w w' := by
  have hB : 1 < w.heap.size := by
    obtain ⟨m, hm⟩ := hM
    exact World.block_lt_of_cell? _ _ hm
  have cP := plainText
  have cN := fwNew_any held_0 hB hM hE (Sat.start w)
  generalize plainB = TXT at *
  go_enter Tryz.func6, Tryz.ntmps6
  go_wp2_with fail
  refine (cP _).mono ?_
  rintro e w1 ⟨rfl, rfl⟩
  go_wp2_with fail
  refine cN.mono ?_
  rintro e w2 ⟨fw, pol, ck, pd, st, fc, fl, rfl, hS2⟩
  clear cP cN
  go_upto_region 4 with (fail)
  refine wp_region_seq [(0, .acts), (1, .acts), (2, .pure), (3, .pure), (4, .acts), (5, .pure)] (by kernel_rfl)
    (fun _ => True) trivial ?_
  refine ord_acts rfl rfl (fun K' hK => ?_)
  go_simp
  refine (v4_n _).mono ?_
  rintro e u1 ⟨rfl, hb1⟩
  have hS3 := hS2.below_ hb1
  refine hK _ _ (trivial) ?_
  clear hK K'
  go_simp
  refine ord_acts rfl rfl (fun K' hK => ?_)
  go_simp
  refine (v4_m _).mono ?_
  rintro e u2 ⟨rfl, hb2⟩
  have hS4 := hS3.below_ hb2
  refine hK _ _ (trivial) ?_
  clear hK K'
  go_simp
  refine ord_run (v := .agg (tuC 5).toArray) rfl rfl (exec_build rfl (vs := [(0, .agg adA), (1, .agg adB), (2, .int .i64 17), (3, .int .i64 5), (4, .int .i64 6)]) (by simp [Act.eval]) (by kernel_rfl)) (fun K' hK => ?_)
  go_simp
  refine hK _ ?_
  clear hK K'
  refine ord_run (v := .agg (pkC 5).toArray) rfl rfl (exec_build rfl (vs := [(0, .agg (tuC 5).toArray)]) (by simp [Act.eval]) (by kernel_rfl)) (fun K' hK => ?_)
  go_simp
  refine hK _ ?_
  clear hK K'
  refine ord_acts rfl rfl (fun K' hK => ?_)
  go_simp
  refine (frame_any 5 (by omega) (by omega) hS4).mono ?_
  rintro e u3 ⟨v, rfl, hS5⟩
  refine hK _ _ (trivial) ?_
  clear hK K'
  go_simp
  iterate 1 (refine ord_pure rfl rfl rfl (fun K' hK => ?_); go_big_quiet_op; refine hK _ ?_; clear hK K')
  refine ord_nil ?_
  have c5 := fun tx => stepNew (tx := tx) (m := 0) hB hE FR.nil (by omega) (by decide) (by omega) (by omega) (hS5.to (by ac_rfl : _ = byt v (ethB (5 + (0 : Nat))) • (blk fw (fwB pol ck pd st fc fl 1) • blk ck (.cells #[.int .u64 0] 105) • policyH pol • fltab fl (roomOf 1) [] 0) • emp))
  obtain ⟨vA, vc, rfl⟩ := (show ∃ A c, v = .slice A (ethB 5).length c from ⟨_, _, (hS5.bytVw (by simp [ethB])).choose_spec.choose_spec.1⟩)
  clear hS5 hS4 hS3 hS2
  go_wp2_with fail
  refine (c5 _).mono ?_
  rintro e u5 ⟨rfl, R, hR, hS6⟩
  have c6 := flowsF_any hS6
  rw [hR.len] at c6
  have hB6 := hS6.below
  clear c5 hS6 hR
  rw [Nat.zero_add] at c6
  go_wp2_with fail
  refine c6.mono ?_
  rintro e u6 ⟨A, c, rfl, hS7⟩
  go_wp2_with fail
  go_ret
  exact ⟨rfl, hS7.below⟩
end Go.Proofs.YtdcekoocnoackaaGreatDoor

/-! TopFull's walk. -/
namespace Go.Proofs.YtdcekoocnoackaaGreatDoor
open Go Go.RowKit

set_option maxRecDepth 8000 in
set_option maxHeartbeats 16000000 in
theorem topfull_any (a0 b0 : Int) (w : World) (hM : Mx w) (hE : Et w) : Calls Tryz.prog 3 #[.int .i64 a0, .int .i64 b0] w fun e w' => e = .returned (.bool true) ∧ Below w.heap.size w w' := by
  have hB : 1 < w.heap.size := by
    obtain ⟨m, hm⟩ := hM
    exact World.block_lt_of_cell? _ _ hm
  obtain ⟨m1, hm1, hmod1⟩ := mod_of a0 10 (by decide) (by decide)
  obtain ⟨n, hn, hmod2⟩ := mod_of b0 25 (by decide) (by decide)
  obtain ⟨k, hk⟩ : ∃ k : Nat, k = m1 + 1 := ⟨_, rfl⟩
  have hk1 : 1 + (m1 : Int) = k := by omega
  have hk10 : k ≤ 10 := by omega
  have hk0 : 0 < k := by omega
  clear hk hm1
  have cP := plainText
  have cN := fwNew_any (held_in k (by omega) (by omega)) hB hM hE (Sat.start w)
  rw [show roomOf k = k by unfold roomOf; omega] at cN
  generalize plainB = TXT at *
  go_enter Tryz.func3, Tryz.ntmps3
  go_wp2_with fail
  rw [hmod1, hmod2]
  clear hmod1 hmod2 hk1
  refine (cP _).mono ?_
  rintro e w1 ⟨rfl, rfl⟩
  go_wp2_with fail
  refine cN.mono ?_
  rintro e w2 ⟨fw, pol, ck, pd, st, fc, fl, rfl, hS2⟩
  clear cP cN
  have hb2 := hS2.below
  have ca := awakeT_any w2 (hM.below hb2) (hE.below hb2)
  clear hb2
  go_wp2_with fail
  refine ca.mono ?_
  rintro e w3 ⟨rfl, hb3⟩
  have hS3 := hS2.below_ hb3
  clear hS2 hb3 ca
  go_wp2_with fail
  go_loopw [8] (fun i wr => ∃ (j : Nat) (R : List FIt) (next : Int), j ≤ n ∧ i = .int .i64 j ∧ FR (min j k) R ∧ 0 ≤ next ∧ next ≤ j ∧ Sat w1.heap.size w1 wr ((blk fw (fwB pol ck pd st fc fl k) • blk ck (.cells #[.int .u64 0] 105) • policyH pol • fltab fl k R next) • emp)) (fun i _ => n - (intOf i).toNat)
  case atStart => exact ⟨0, [], 0, Nat.zero_le _, rfl, by rw [Nat.zero_min]; exact FR.nil, by omega, by omega, hS3.to (by ac_rfl)⟩
  case round =>
    clear hS3
    obtain ⟨j, R, next, hj, rfl, hR, hn0, hn1, hS⟩ := hrel
    by_cases hlt : j < n
    · have cf := frameI_any j (by omega) (by omega) hS
      go_wp2_with fail
      refine cf.mono ?_
      rintro e w5 ⟨v, rfl, hS5⟩
      obtain ⟨vA, vc, rfl⟩ := (show ∃ A c, v = .slice A (ethB (5 + j)).length c from ⟨_, _, (hS5.bytVw (by simp [ethB])).choose_spec.choose_spec.1⟩)
      clear cf hS
      by_cases hjk : j < k
      · rw [show min j k = j by omega] at hR
        have cs := fun tx => stepNew (tx := tx) hB hE hR (by omega) hjk (by omega) (by omega) hS5
        have hge : ¬ (k : Int) ≤ j := by omega
        clear hS5 hR
        go_wp2_with fail
        refine (cs _).mono ?_
        rintro e w6 ⟨rfl, R', hR', hS6⟩
        clear cs
        go_wp2_with fail
        go_roundw
        case rel => exact ⟨j + 1, R', next + 1, by omega, by go_num, by rw [show min (j + 1) k = j + 1 by omega]; exact hR', by omega, by omega, ((hS6.alloc_ _).alloc_ _).to (by ac_rfl)⟩
        case measure => simp [intOf]; omega
      · rw [show min j k = k by omega] at hR
        have cs := fun tx => stepFull (tx := tx) (i := j) hB hE hR (Int.le_refl _) (by omega) (by omega) (by omega) hS5
        have hge : (k : Int) ≤ j := by omega
        clear hS5
        go_wp2_with fail
        refine (cs _).mono ?_
        rintro e w6 ⟨rfl, hS6⟩
        clear cs
        go_wp2_with fail
        go_roundw
        case rel => exact ⟨j + 1, R, next, by omega, by go_num, by rw [show min (j + 1) k = k by omega]; exact hR, by omega, by omega, ((hS6.alloc_ _).alloc_ _).to (by ac_rfl)⟩
        case measure => simp [intOf]; omega
    · obtain rfl : j = n := by omega
      have hS0 := Lib.hid hS
      have hR0 := Lib.hid hR
      clear hS hR hlt hj
      go_wp2_with fail
      go_loopw [11] (fun i wr => ∃ (q : Nat) (R : List FIt) (next : Int), q ≤ j ∧ i = .int .i64 q ∧ FR (min j k) R ∧ 0 ≤ next ∧ next ≤ 1000 ∧ Sat w1.heap.size w1 wr ((blk fw (fwB pol ck pd st fc fl k) • blk ck (.cells #[.int .u64 0] 105) • policyH pol • fltab fl k R next) • emp)) (fun i _ => j - (intOf i).toNat)
      case atStart => exact ⟨0, R, next, Nat.zero_le _, rfl, hR0.out, hn0, by omega, hS0.out⟩
      case round =>
        clear hS0 hR0 hn0 hn1 R next
        obtain ⟨q, R, next, hj, rfl, hR, hn0, hn1, hS⟩ := hrel
        by_cases hlt : q < j
        · have cf := frameI_any q (by omega) (by omega) hS
          go_wp2_with fail
          refine cf.mono ?_
          rintro e w5 ⟨v, rfl, hS5⟩
          obtain ⟨vA, vc, rfl⟩ := (show ∃ A c, v = .slice A (ethB (5 + q)).length c from ⟨_, _, (hS5.bytVw (by simp [ethB])).choose_spec.choose_spec.1⟩)
          clear cf hS
          by_cases hjk : q < k
          · have cs := fun tx => stepKnown (tx := tx) (i := q) hB hE hR (by omega) (by omega) hS5
            have hge : (q : Int) < k := by omega
            clear hS5 hR
            go_wp2_with fail
            refine (cs _).mono ?_
            rintro e w6 ⟨rfl, R', hR', hS6⟩
            clear cs
            go_wp2_with fail
            go_roundw
            case rel => exact ⟨q + 1, R', next, by omega, by go_num, hR', by omega, by omega, (hS6.alloc_ _).to (by ac_rfl)⟩
            case measure => simp [intOf]; omega
          · rw [show min j k = k by omega] at hR
            have cs := fun tx => stepFull (tx := tx) (i := q) hB hE hR (Int.le_refl _) (by omega) (by omega) (by omega) hS5
            have hge : ¬ (q : Int) < k := by omega
            clear hS5
            go_wp2_with fail
            refine (cs _).mono ?_
            rintro e w6 ⟨rfl, hS6⟩
            clear cs
            go_wp2_with fail
            go_roundw
            case rel => exact ⟨q + 1, R, next, by omega, by go_num, by rw [show min j k = k by omega]; exact hR, by omega, by omega, (hS6.alloc_ _).to (by ac_rfl)⟩
            case measure => simp [intOf]; omega
        · obtain rfl : q = j := by omega
          have cl := flowsF_any (hS.to (by ac_rfl : _ = blk fw (fwB pol ck pd st fc fl k) • blk ck (.cells #[.int .u64 0] 105) • policyH pol • fltab fl k R next • emp))
          rw [hR.len] at cl
          have hL : ((min q k : Nat) : Int) = min (q : Int) (k : Int) := by omega
          clear hS hR hj hlt
          go_wp2_with fail
          refine cl.mono ?_
          rintro e u6 ⟨A, c, rfl, hS7⟩
          go_wp2_with fail
          go_ret
          exact ⟨rfl, hS7.below⟩
end Go.Proofs.YtdcekoocnoackaaGreatDoor
