import Derived.Test.YtepaanpdjadakaaDoorProg
import Derived.KernelRfl
import Derived.Test.YtepaanpdjadakaaDoorBase
import Derived.WalkLawsBesides
import Derived.WalkSpells
import Derived.Lib.Hide
/-! Which entry ends first. -/
namespace Go.Proofs.YtepaanpdjadakaaDoor
open Go Go.RowKit

def Ent.enc (e : Ent) : List Value := [.int .i64 e.id, .int .u64 e.due]
theorem Ent.enc_length (e : Ent) : e.enc.length = 2 := rfl
theorem Ent.enc_one (e : Ent) : ∀ u ∈ e.enc, u.oneCell' = true := by
  intro u hu
  simp only [Ent.enc, List.mem_cons, List.not_mem_nil, or_false] at hu
  rcases hu with rfl | rfl <;> rfl
def cmpI (x y : Int) : Int := if x < y then -1 else if y < x then 1 else 0
def orI (a b : Int) : Int := if a = 0 then b else a
def cmpE (a b : Ent) : Int := orI (cmpI a.due b.due) (cmpI a.id b.id)
theorem cmpE_lt (a b : Ent) : (decide (cmpE a b < 0)) = a.lt b := by
  rw [Bool.eq_iff_iff, Ent.lt_iff]
  unfold cmpE orI cmpI
  simp only [decide_eq_true_eq]
  repeat' split
  all_goals omega

theorem isNaNU_any (x : Int) (w : World) : Calls Tryd.prog 152 #[.int .u64 x] w fun e w' => e = .returned (.bool false) ∧ w' = w := by
  have hx : (x != x) = false := by simp
  go_enter Tryd.func152, Tryd.ntmps152
  go_wp2
  go_ret
  exact ⟨rfl, rfl⟩
theorem cmpU_any (x y : Int) (w : World) : Calls Tryd.prog 126 #[.int .u64 x, .int .u64 y] w fun e w' => e = .returned (.int .i64 (cmpI x y)) ∧ w' = w := by
  unfold cmpI
  by_cases h1 : x < y
  · go_enter Tryd.func126, Tryd.ntmps126
    go_wp2_with fail
    refine (isNaNU_any x _).mono ?_
    rintro e w1 ⟨rfl, rfl⟩
    go_wp2_with fail
    refine (isNaNU_any y _).mono ?_
    rintro e w1 ⟨rfl, rfl⟩
    go_wp2_with fail
    go_ret
    exact ⟨rfl, rfl⟩
  · have h1' : y ≤ x := by omega
    by_cases h2 : y < x
    · go_enter Tryd.func126, Tryd.ntmps126
      go_wp2_with fail
      refine (isNaNU_any x _).mono ?_
      rintro e w1 ⟨rfl, rfl⟩
      go_wp2_with fail
      refine (isNaNU_any y _).mono ?_
      rintro e w1 ⟨rfl, rfl⟩
      go_wp2_with fail
      go_ret
      exact ⟨rfl, rfl⟩
    · have h2' : x ≤ y := by omega
      go_enter Tryd.func126, Tryd.ntmps126
      go_wp2_with fail
      refine (isNaNU_any x _).mono ?_
      rintro e w1 ⟨rfl, rfl⟩
      go_wp2_with fail
      refine (isNaNU_any y _).mono ?_
      rintro e w1 ⟨rfl, rfl⟩
      go_wp2_with fail
      go_ret
      exact ⟨rfl, rfl⟩

theorem isNaNS_any (x : Int) (w : World) : Calls Tryd.prog 190 #[.int .i64 x] w fun e w' => e = .returned (.bool false) ∧ w' = w := by
  have hx : (x != x) = false := by simp
  go_enter Tryd.func190, Tryd.ntmps190
  go_wp2
  go_ret
  exact ⟨rfl, rfl⟩
theorem cmpS_any (x y : Int) (w : World) : Calls Tryd.prog 189 #[.int .i64 x, .int .i64 y] w fun e w' => e = .returned (.int .i64 (cmpI x y)) ∧ w' = w := by
  unfold cmpI
  by_cases h1 : x < y
  · go_enter Tryd.func189, Tryd.ntmps189
    go_wp2_with fail
    refine (isNaNS_any x _).mono ?_
    rintro e w1 ⟨rfl, rfl⟩
    go_wp2_with fail
    refine (isNaNS_any y _).mono ?_
    rintro e w1 ⟨rfl, rfl⟩
    go_wp2_with fail
    go_ret
    exact ⟨rfl, rfl⟩
  · have h1' : y ≤ x := by omega
    by_cases h2 : y < x
    · go_enter Tryd.func189, Tryd.ntmps189
      go_wp2_with fail
      refine (isNaNS_any x _).mono ?_
      rintro e w1 ⟨rfl, rfl⟩
      go_wp2_with fail
      refine (isNaNS_any y _).mono ?_
      rintro e w1 ⟨rfl, rfl⟩
      go_wp2_with fail
      go_ret
      exact ⟨rfl, rfl⟩
    · have h2' : x ≤ y := by omega
      go_enter Tryd.func189, Tryd.ntmps189
      go_wp2_with fail
      refine (isNaNS_any x _).mono ?_
      rintro e w1 ⟨rfl, rfl⟩
      go_wp2_with fail
      refine (isNaNS_any y _).mono ?_
      rintro e w1 ⟨rfl, rfl⟩
      go_wp2_with fail
      go_ret
      exact ⟨rfl, rfl⟩

theorem or_any (a b : Int) (v : Value) (w : World) (h : Reads w v 2 [.int .i64 a, .int .i64 b]) : Calls Tryd.prog 188 #[v] w fun e w' => e = .returned (.int .i64 (orI a b)) ∧ w' = w := by
  rcases h with ⟨_, _, h0, _⟩ | ⟨ad, c, rfl, hc⟩
  · omega
  have hcell : ∀ k, k < 2 → w.cell? (ad.add k) = some (.int .i64 (nth [a, b] k)) := by
    intro k hk
    refine hc k _ ?_
    rcases k with _ | _ | k
    · rfl
    · rfl
    · omega
  have hend : a = 0 → b = 0 → orI a b = 0 := by intro h1 h2; unfold orI; rw [if_pos h1]; exact h2
  have hend0 : a ≠ 0 → orI a b = nth [a, b] 0 := by intro h1; unfold orI; rw [if_neg h1]; rfl
  have hend1 : a = 0 → orI a b = nth [a, b] 1 := by intro h1; unfold orI; rw [if_pos h1]; rfl
  generalize hR : orI a b = R at *
  have Hend := Lib.hid hend
  have Hend0 := Lib.hid hend0
  have Hend1 := Lib.hid hend1
  clear hend hend0 hend1 hR hc
  go_enter Tryd.func188, Tryd.ntmps188
  go_wp2_with fail
  go_loop [8] (fun i => ∃ k : Nat, k ≤ 2 ∧ i = .int .i64 k ∧ Hid ((0 < k → a = 0) ∧ (1 < k → b = 0))) (fun i => 2 - (intOf i).toNat)
  case atStart => exact ⟨0, by omega, rfl, Lib.hid ⟨by omega, by omega⟩⟩
  case round =>
    obtain ⟨k, hk, rfl, HK⟩ := hrel
    by_cases hlt : k < 2
    · have hck := hcell k hlt
      clear hcell
      by_cases hz : nth [a, b] k = 0
      · have hz1 : (nth [a, b] k != 0) = false := by simpa using hz
        have HZ := Lib.hid hz
        clear hz
        go_wp2_with fail
        go_round
        case rel =>
          refine ⟨k + 1, by omega, by go_num, Lib.hid ⟨fun _ => ?_, fun h => ?_⟩⟩
          · rcases k with _ | k
            · exact HZ.out
            · exact HK.out.1 (by omega)
          · obtain rfl : k = 1 := by omega
            exact HZ.out
        case measure => simp [intOf]; omega
      · have hz1 : (nth [a, b] k != 0) = true := by simpa using hz
        go_wp2_with fail
        go_ret
        refine ⟨?_, rfl⟩
        rcases k with _ | _ | k
        · rw [Hend0.out hz]; rfl
        · rw [Hend1.out (HK.out.1 (by omega))]; rfl
        · omega
    · obtain rfl : k = 2 := by omega
      go_wp2_with fail
      go_ret
      refine ⟨?_, rfl⟩
      rw [Hend.out (HK.out.1 (by omega)) (HK.out.2 (by omega))]; rfl
set_option maxRecDepth 8000 in
set_option maxHeartbeats 1000000 in
theorem compare_any (a b : Ent) (w : World) : Calls Tryd.prog 187 #[.agg a.enc.toArray, .agg b.enc.toArray] w fun e w' => e = .returned (.int .i64 (cmpE a b)) ∧ Below w.heap.size w w' := by
  obtain ⟨ai, ad⟩ := a
  obtain ⟨bi, bd⟩ := b
  simp only [Ent.enc, cmpE]
  go_enter Tryd.func187, Tryd.ntmps187
  go_wp2_with fail
  have hS := ((Sat.start w).alloc (.cells #[.int .i64 ai, .int .u64 ad] 34)).alloc (.cells #[.int .i64 bi, .int .u64 bd] 34)
  rw [World.size_alloc] at hS
  generalize hW : (w.alloc (.cells #[.int .i64 ai, .int .u64 ad] 34)).alloc (.cells #[.int .i64 bi, .int .u64 bd] 34) = W at *
  have hS' := hS.drew
  clear hW
  refine wp_region_ord [(0, .pure), (1, .quiet), (2, .pure), (3, .quiet), (5, .pure), (6, .quiet), (7, .pure), (8, .quiet), (4, .acts), (9, .acts), (10, .acts), (11, .acts), (12, .pure)] (by kernel_rfl) (by kernel_rfl)
    (fun w' => Sat w.heap.size w w' (blk (w.heap.size + 1) (.cells #[.int .i64 bi, .int .u64 bd] 34) ⋆ blk w.heap.size (.cells #[.int .i64 ai, .int .u64 ad] 34) ⋆ emp)) hS' ?_
  iterate 1 (refine ord_pure rfl rfl rfl (fun K' hK => ?_); go_big_quiet_op; refine hK _ ?_; clear hK K')
  refine ord_load (t := 23) rfl rfl rfl (p := .pointer (some ⟨w.heap.size, 1, none⟩)) (v := .int .u64 ad) rfl (fun w' hC => run_loadAt_one hC.pull2.heap Tryd.underlying23 rfl rfl) (fun K' hK => ?_)
  go_simp
  refine hK _ ?_
  clear hK K'
  iterate 1 (refine ord_pure rfl rfl rfl (fun K' hK => ?_); go_big_quiet_op; refine hK _ ?_; clear hK K')
  refine ord_load (t := 23) rfl rfl rfl (p := .pointer (some ⟨w.heap.size + 1, 1, none⟩)) (v := .int .u64 bd) rfl (fun w' hC => run_loadAt_one hC.heap Tryd.underlying23 rfl rfl) (fun K' hK => ?_)
  go_simp
  refine hK _ ?_
  clear hK K'
  iterate 1 (refine ord_pure rfl rfl rfl (fun K' hK => ?_); go_big_quiet_op; refine hK _ ?_; clear hK K')
  refine ord_load (t := 3) rfl rfl rfl (p := .pointer (some ⟨w.heap.size, 0, none⟩)) (v := .int .i64 ai) rfl (fun w' hC => run_loadAt_one hC.pull2.heap Tryd.underlying3 rfl rfl) (fun K' hK => ?_)
  go_simp
  refine hK _ ?_
  clear hK K'
  iterate 1 (refine ord_pure rfl rfl rfl (fun K' hK => ?_); go_big_quiet_op; refine hK _ ?_; clear hK K')
  refine ord_load (t := 3) rfl rfl rfl (p := .pointer (some ⟨w.heap.size + 1, 0, none⟩)) (v := .int .i64 bi) rfl (fun w' hC => run_loadAt_one hC.heap Tryd.underlying3 rfl rfl) (fun K' hK => ?_)
  go_simp
  refine hK _ ?_
  clear hK K'
  refine ord_acts rfl rfl (fun K' hK => ?_)
  go_simp
  refine (cmpU_any ad bd _).mono ?_
  rintro e w1 ⟨rfl, rfl⟩
  refine hK _ _ hS' ?_
  clear hK K'
  go_simp
  refine ord_acts rfl rfl (fun K' hK => ?_)
  go_simp
  refine (cmpS_any ai bi _).mono ?_
  rintro e w1 ⟨rfl, rfl⟩
  refine hK _ _ hS' ?_
  clear hK K'
  go_simp
  refine ord_acts rfl rfl (fun K' hK => ?_)
  refine wp_buildSlice_row (t := 74) rfl [.int .i64 (cmpI ad bd), .int .i64 (cmpI ai bi)] rfl (by simp [Act.eval]) Tryd.underlying74 (show (Tryd.prog.info? 3).map (fun i => (i.zero, i.size)) = some (some (.int .i64 0), 1) by kernel_rfl) (by simp [Value.cells]) (by decide) (by decide) ?_
  rw [show ([.int .i64 (cmpI ad bd), .int .i64 (cmpI ai bi)] : List Value).flatMap (fun v => v.cells.toList) = [.int .i64 (cmpI ad bd), .int .i64 (cmpI ai bi)] from rfl]
  have hR : Reads (W.drew.alloc (.cells [.int .i64 (cmpI ad bd), .int .i64 (cmpI ai bi)].toArray 3)) (.slice (some ⟨W.drew.heap.size, 0, none⟩) 2 2) 2 [.int .i64 (cmpI ad bd), .int .i64 (cmpI ai bi)] := reads_new
  have hS2 := hS'.alloc_ (.cells [.int .i64 (cmpI ad bd), .int .i64 (cmpI ai bi)].toArray 3)
  refine hK _ _ hS2 ?_
  clear hK K'
  go_simp
  refine ord_acts rfl rfl (fun K' hK => ?_)
  go_simp
  refine (or_any _ _ _ _ hR).mono ?_
  rintro e w1 ⟨rfl, rfl⟩
  refine hK _ _ hS2 ?_
  clear hK K'
  go_simp
  iterate 1 (refine ord_pure rfl rfl rfl (fun K' hK => ?_); go_big_quiet_op; refine hK _ ?_; clear hK K')
  refine ord_nil ?_
  go_wp2_with fail
  go_ret
  exact ⟨rfl, hS2.below⟩
end Go.Proofs.YtepaanpdjadakaaDoor
