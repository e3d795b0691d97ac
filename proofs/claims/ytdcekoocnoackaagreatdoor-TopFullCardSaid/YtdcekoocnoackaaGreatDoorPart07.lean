import Derived.Test.YtdcekoocnoackaaGreatDoorProg
import Derived.KernelRfl
import Derived.Test.YtdcekoocnoackaaGreatDoorPart04
import Derived.Test.YtdcekoocnoackaaGreatDoorPart05
import Derived.Test.YtdcekoocnoackaaGreatDoorPart06
import Derived.WalkLawsBesides
import Derived.WalkSpells
import Derived.Lib.Hide

/-! Which entry ends first. -/
namespace Go.Proofs.YtdcekoocnoackaaGreatDoor
open Go Go.RowKit

def Ent.enc (e : Ent) : List Value := [.int .i64 e.id, .int .u64 e.due]
theorem Ent.enc_length (e : Ent) : e.enc.length = 2 := rfl
theorem Ent.enc_one (e : Ent) : ∀ u ∈ e.enc, u.oneCell' = true := by
  intro u hu
  simp only [Ent.enc, List.mem_cons, List.not_mem_nil, or_false] at hu
  rcases hu with rfl | rfl <;> rfl
def cmpI (x y : Int) : Int := if x < y then -1 else if y < x then 1 else 0
def orI (a b : Int) : Int := if a = 0 then b else a
def cmpE (a b : Ent) : Int := orI (cmpI a.due b.due) (cmpI a.id b.id)
theorem cmpE_lt (a b : Ent) : (decide (cmpE a b < 0)) = a.lt b := by
  rw [Bool.eq_iff_iff, Ent.lt_iff]
  unfold cmpE orI cmpI
  simp only [decide_eq_true_eq]
  repeat' split
  all_goals omega

theorem isNaNU_any (x : Int) (w : World) : Calls Tryz.prog 175 #[.int .u64 x] w fun e w' => e = .returned (.bool false) ∧ w' = w := by
  have hx : (x != x) = false := by simp
  go_enter Tryz.func175, Tryz.ntmps175
  go_wp2
  go_ret
  exact ⟨rfl, rfl⟩
theorem cmpU_any (x y : Int) (w : World) : Calls Tryz.prog 113 #[.int .u64 x, .int .u64 y] w fun e w' => e = .returned (.int .i64 (cmpI x y)) ∧ w' = w := by
  unfold cmpI
  by_cases h1 : x < y
  · go_enter Tryz.func113, Tryz.ntmps113
    go_wp2_with fail
    refine (isNaNU_any x _).mono ?_
    rintro e w1 ⟨rfl, rfl⟩
    go_wp2_with fail
    refine (isNaNU_any y _).mono ?_
    rintro e w1 ⟨rfl, rfl⟩
    go_wp2_with fail
    go_ret
    exact ⟨rfl, rfl⟩
  · have h1' : y ≤ x := by omega
    by_cases h2 : y < x
    · go_enter Tryz.func113, Tryz.ntmps113
      go_wp2_with fail
      refine (isNaNU_any x _).mono ?_
      rintro e w1 ⟨rfl, rfl⟩
      go_wp2_with fail
      refine (isNaNU_any y _).mono ?_
      rintro e w1 ⟨rfl, rfl⟩
      go_wp2_with fail
      go_ret
      exact ⟨rfl, rfl⟩
    · have h2' : x ≤ y := by omega
      go_enter Tryz.func113, Tryz.ntmps113
      go_wp2_with fail
      refine (isNaNU_any x _).mono ?_
      rintro e w1 ⟨rfl, rfl⟩
      go_wp2_with fail
      refine (isNaNU_any y _).mono ?_
      rintro e w1 ⟨rfl, rfl⟩
      go_wp2_with fail
      go_ret
      exact ⟨rfl, rfl⟩

theorem isNaNS_any (x : Int) (w : World) : Calls Tryz.prog 424 #[.int .i64 x] w fun e w' => e = .returned (.bool false) ∧ w' = w := by
  have hx : (x != x) = false := by simp
  go_enter Tryz.func424, Tryz.ntmps424
  go_wp2
  go_ret
  exact ⟨rfl, rfl⟩
theorem cmpS_any (x y : Int) (w : World) : Calls Tryz.prog 423 #[.int .i64 x, .int .i64 y] w fun e w' => e = .returned (.int .i64 (cmpI x y)) ∧ w' = w := by
  unfold cmpI
  by_cases h1 : x < y
  · go_enter Tryz.func423, Tryz.ntmps423
    go_wp2_with fail
    refine (isNaNS_any x _).mono ?_
    rintro e w1 ⟨rfl, rfl⟩
    go_wp2_with fail
    refine (isNaNS_any y _).mono ?_
    rintro e w1 ⟨rfl, rfl⟩
    go_wp2_with fail
    go_ret
    exact ⟨rfl, rfl⟩
  · have h1' : y ≤ x := by omega
    by_cases h2 : y < x
    · go_enter Tryz.func423, Tryz.ntmps423
      go_wp2_with fail
      refine (isNaNS_any x _).mono ?_
      rintro e w1 ⟨rfl, rfl⟩
      go_wp2_with fail
      refine (isNaNS_any y _).mono ?_
      rintro e w1 ⟨rfl, rfl⟩
      go_wp2_with fail
      go_ret
      exact ⟨rfl, rfl⟩
    · have h2' : x ≤ y := by omega
      go_enter Tryz.func423, Tryz.ntmps423
      go_wp2_with fail
      refine (isNaNS_any x _).mono ?_
      rintro e w1 ⟨rfl, rfl⟩
      go_wp2_with fail
      refine (isNaNS_any y _).mono ?_
      rintro e w1 ⟨rfl, rfl⟩
      go_wp2_with fail
      go_ret
      exact ⟨rfl, rfl⟩

theorem or_any (a b : Int) (v : Value) (w : World) (h : Reads w v 2 [.int .i64 a, .int .i64 b]) : Calls Tryz.prog 422 #[v] w fun e w' => e = .returned (.int .i64 (orI a b)) ∧ w' = w := by
  rcases h with ⟨_, _, h0, _⟩ | ⟨ad, c, rfl, hc⟩
  · omega
  have hcell : ∀ k, k < 2 → w.cell? (ad.add k) = some (.int .i64 (nth [a, b] k)) := by
    intro k hk
    refine hc k _ ?_
    rcases k with _ | _ | k
    · rfl
    · rfl
    · omega
  have hend : a = 0 → b = 0 → orI a b = 0 := by intro h1 h2; unfold orI; rw [if_pos h1]; exact h2
  have hend0 : a ≠ 0 → orI a b = nth [a, b] 0 := by intro h1; unfold orI; rw [if_neg h1]; rfl
  have hend1 : a = 0 → orI a b = nth [a, b] 1 := by intro h1; unfold orI; rw [if_pos h1]; rfl
  generalize hR : orI a b = R at *
  have Hend := Lib.hid hend
  have Hend0 := Lib.hid hend0
  have Hend1 := Lib.hid hend1
  clear hend hend0 hend1 hR hc
  go_enter Tryz.func422, Tryz.ntmps422
  go_wp2_with fail
  go_loop [8] (fun i => ∃ k : Nat, k ≤ 2 ∧ i = .int .i64 k ∧ Hid ((0 < k → a = 0) ∧ (1 < k → b = 0))) (fun i => 2 - (intOf i).toNat)
  case atStart => exact ⟨0, by omega, rfl, Lib.hid ⟨by omega, by omega⟩⟩
  case round =>
    obtain ⟨k, hk, rfl, HK⟩ := hrel
    by_cases hlt : k < 2
    · have hck := hcell k hlt
      clear hcell
      by_cases hz : nth [a, b] k = 0
      · have hz1 : (nth [a, b] k != 0) = false := by simpa using hz
        have HZ := Lib.hid hz
        clear hz
        go_wp2_with fail
        go_round
        case rel =>
          refine ⟨k + 1, by omega, by go_num, Lib.hid ⟨fun _ => ?_, fun h => ?_⟩⟩
          · rcases k with _ | k
            · exact HZ.out
            · exact HK.out.1 (by omega)
          · obtain rfl : k = 1 := by omega
            exact HZ.out
        case measure => simp [intOf]; omega
      · have hz1 : (nth [a, b] k != 0) = true := by simpa using hz
        go_wp2_with fail
        go_ret
        refine ⟨?_, rfl⟩
        rcases k with _ | _ | k
        · rw [Hend0.out hz]; rfl
        · rw [Hend1.out (HK.out.1 (by omega))]; rfl
        · omega
    · obtain rfl : k = 2 := by omega
      go_wp2_with fail
      go_ret
      refine ⟨?_, rfl⟩
      rw [Hend.out (HK.out.1 (by omega)) (HK.out.2 (by omega))]; rfl
set_option maxRecDepth 8000 in
set_option maxHeartbeats 1000000 in
theorem compare_any (a b : Ent) (w : World) : Calls Tryz.prog 421 #[.agg a.enc.toArray, .agg b.enc.toArray] w fun e w' => e = .returned (.int .i64 (cmpE a b)) ∧ Below w.heap.size w w' := by
  obtain ⟨ai, ad⟩ := a
  obtain ⟨bi, bd⟩ := b
  simp only [Ent.enc, cmpE]
  go_enter Tryz.func421, Tryz.ntmps421
  go_wp2_with fail
  have hS := ((Sat.start w).alloc (.cells #[.int .i64 ai, .int .u64 ad] 332)).alloc (.cells #[.int .i64 bi, .int .u64 bd] 332)
  rw [World.size_alloc] at hS
  generalize hW : (w.alloc (.cells #[.int .i64 ai, .int .u64 ad] 332)).alloc (.cells #[.int .i64 bi, .int .u64 bd] 332) = W at *
  have hS' := hS.drew
  clear hW
  refine wp_region_ord [(0, .pure), (1, .quiet), (2, .pure), (3, .quiet), (5, .pure), (6, .quiet), (7, .pure), (8, .quiet), (4, .acts), (9, .acts), (10, .acts), (11, .acts), (12, .pure)] (by kernel_rfl) (by kernel_rfl)
    (fun w' => Sat w.heap.size w w' (blk (w.heap.size + 1) (.cells #[.int .i64 bi, .int .u64 bd] 332) • blk w.heap.size (.cells #[.int .i64 ai, .int .u64 ad] 332) • emp)) hS' ?_
  iterate 1 (refine ord_pure rfl rfl rfl (fun K' hK => ?_); go_big_quiet_op; refine hK _ ?_; clear hK K')
  refine ord_load (t := 49) rfl rfl rfl (p := .pointer (some ⟨w.heap.size, 1, none⟩)) (v := .int .u64 ad) rfl (fun w' hC => run_loadAt_one hC.pull2.heap Tryz.underlying49 rfl rfl) (fun K' hK => ?_)
  go_simp
  refine hK _ ?_
  clear hK K'
  iterate 1 (refine ord_pure rfl rfl rfl (fun K' hK => ?_); go_big_quiet_op; refine hK _ ?_; clear hK K')
  refine ord_load (t := 49) rfl rfl rfl (p := .pointer (some ⟨w.heap.size + 1, 1, none⟩)) (v := .int .u64 bd) rfl (fun w' hC => run_loadAt_one hC.heap Tryz.underlying49 rfl rfl) (fun K' hK => ?_)
  go_simp
  refine hK _ ?_
  clear hK K'
  iterate 1 (refine ord_pure rfl rfl rfl (fun K' hK => ?_); go_big_quiet_op; refine hK _ ?_; clear hK K')
  refine ord_load (t := 3) rfl rfl rfl (p := .pointer (some ⟨w.heap.size, 0, none⟩)) (v := .int .i64 ai) rfl (fun w' hC => run_loadAt_one hC.pull2.heap Tryz.underlying3 rfl rfl) (fun K' hK => ?_)
  go_simp
  refine hK _ ?_
  clear hK K'
  iterate 1 (refine ord_pure rfl rfl rfl (fun K' hK => ?_); go_big_quiet_op; refine hK _ ?_; clear hK K')
  refine ord_load (t := 3) rfl rfl rfl (p := .pointer (some ⟨w.heap.size + 1, 0, none⟩)) (v := .int .i64 bi) rfl (fun w' hC => run_loadAt_one hC.heap Tryz.underlying3 rfl rfl) (fun K' hK => ?_)
  go_simp
  refine hK _ ?_
  clear hK K'
  refine ord_acts rfl rfl (fun K' hK => ?_)
  go_simp
  refine (cmpU_any ad bd _).mono ?_
  rintro e w1 ⟨rfl, rfl⟩
  refine hK _ _ hS' ?_
  clear hK K'
  go_simp
  refine ord_acts rfl rfl (fun K' hK => ?_)
  go_simp
  refine (cmpS_any ai bi _).mono ?_
  rintro e w1 ⟨rfl, rfl⟩
  refine hK _ _ hS' ?_
  clear hK K'
  go_simp
  refine ord_acts rfl rfl (fun K' hK => ?_)
  refine wp_buildSlice_row (t := 208) rfl [.int .i64 (cmpI ad bd), .int .i64 (cmpI ai bi)] rfl (by simp [Act.eval]) Tryz.underlying208 (show (Tryz.prog.info? 3).map (fun i => (i.zero, i.size)) = some (some (.int .i64 0), 1) by kernel_rfl) (by simp [Value.cells]) (by decide) (by decide) ?_
  rw [show ([.int .i64 (cmpI ad bd), .int .i64 (cmpI ai bi)] : List Value).flatMap (fun v => v.cells.toList) = [.int .i64 (cmpI ad bd), .int .i64 (cmpI ai bi)] from rfl]
  have hR : Reads (W.drew.alloc (.cells [.int .i64 (cmpI ad bd), .int .i64 (cmpI ai bi)].toArray 3)) (.slice (some ⟨W.drew.heap.size, 0, none⟩) 2 2) 2 [.int .i64 (cmpI ad bd), .int .i64 (cmpI ai bi)] := reads_new
  have hS2 := hS'.alloc_ (.cells [.int .i64 (cmpI ad bd), .int .i64 (cmpI ai bi)].toArray 3)
  refine hK _ _ hS2 ?_
  clear hK K'
  go_simp
  refine ord_acts rfl rfl (fun K' hK => ?_)
  go_simp
  refine (or_any _ _ _ _ hR).mono ?_
  rintro e w1 ⟨rfl, rfl⟩
  refine hK _ _ hS2 ?_
  clear hK K'
  go_simp
  iterate 1 (refine ord_pure rfl rfl rfl (fun K' hK => ?_); go_big_quiet_op; refine hK _ ?_; clear hK K')
  refine ord_nil ?_
  go_wp2_with fail
  go_ret
  exact ⟨rfl, hS2.below⟩
end Go.Proofs.YtdcekoocnoackaaGreatDoor

/-! The queue's pile: what it is; Len and Less. -/
namespace Go.Proofs.YtdcekoocnoackaaGreatDoor
open Go Go.RowKit

/-- Of each id its place. -/
def IsIdx (L : List Ent) (f : Int → Option Int) : Prop := ∀ id n : Int, f id = some n ↔ ∃ i : Nat, n = i ∧ i < L.length ∧ (Hp.g L i).id = id
theorem IsIdx.inj {L : List Ent} {f : Int → Option Int} (h : IsIdx L f) {i j : Nat} (hi : i < L.length) (hj : j < L.length) (e : (Hp.g L i).id = (Hp.g L j).id) : i = j := by
  have h1 := (h _ _).2 ⟨i, rfl, hi, rfl⟩
  have h2 := (h _ _).2 ⟨j, rfl, hj, rfl⟩
  rw [e, h2] at h1
  have := Option.some.inj h1
  omega
theorem IsIdx.swap {L : List Ent} {f : Int → Option Int} (h : IsIdx L f) {i k : Nat} (hi : i < L.length) (hk : k < L.length) :
    IsIdx (Hp.swap L i k) (upd (upd f (Hp.g L k).id (some i)) (Hp.g L i).id (some k)) := by
  intro id n
  have hg := fun x => Hp.g_swap L i k x hi hk
  rw [Hp.swap_length]
  by_cases e1 : id = (Hp.g L i).id
  · subst e1
    rw [upd_same]
    constructor
    · intro e
      refine ⟨k, (Option.some.inj e).symm, hk, ?_⟩
      rw [hg, if_pos rfl]
    · rintro ⟨j, rfl, hj, e⟩
      rw [hg] at e
      split at e
      · rename_i e2; rw [e2]
      · split at e
        · rename_i e2 e3
          exact absurd ((h.inj hk hi e).trans e3.symm).symm e2
        · rename_i e2 e3
          exact absurd (h.inj hj hi e) e3
  · rw [upd_other _ _ e1]
    by_cases e2 : id = (Hp.g L k).id
    · subst e2
      rw [upd_same]
      constructor
      · intro e
        refine ⟨i, (Option.some.inj e).symm, hi, ?_⟩
        rw [hg]
        split
        · rename_i e3; subst e3; exact absurd rfl e1
        · rw [if_pos rfl]
      · rintro ⟨j, rfl, hj, e⟩
        rw [hg] at e
        split at e
        · exact absurd e.symm e1
        · split at e
          · rename_i e3 e4; rw [e4]
          · rename_i e3 e4; exact absurd (h.inj hj hk e) e3
    · rw [upd_other _ _ e2, h]
      constructor
      · rintro ⟨j, rfl, hj, e⟩
        refine ⟨j, rfl, hj, ?_⟩
        rw [hg, if_neg (by rintro rfl; exact e2 e.symm), if_neg (by rintro rfl; exact e1 e.symm)]
        exact e
      · rintro ⟨j, rfl, hj, e⟩
        refine ⟨j, rfl, hj, ?_⟩
        rw [hg] at e
        split at e
        · exact absurd e.symm e1
        · split at e
          · exact absurd e.symm e2
          · exact e
theorem g_append_lt {L : List Ent} {x : Ent} {i : Nat} (h : i < L.length) : Hp.g (L ++ [x]) i = Hp.g L i := by
  simp [Hp.g, List.getD_eq_getElem?_getD, List.getElem?_append_left h]
theorem g_append_last (L : List Ent) (x : Ent) : Hp.g (L ++ [x]) L.length = x := by
  simp [Hp.g, List.getD_eq_getElem?_getD]
theorem IsIdx.push {L : List Ent} {f : Int → Option Int} (h : IsIdx L f) {x : Ent} (hx : f x.id = none) : IsIdx (L ++ [x]) (upd f x.id (some L.length)) := by
  intro id n
  rw [List.length_append, List.length_singleton]
  by_cases e1 : id = x.id
  · subst e1
    rw [upd_same]
    constructor
    · intro e; exact ⟨L.length, (Option.some.inj e).symm, by omega, by rw [g_append_last]⟩
    · rintro ⟨j, rfl, hj, e⟩
      by_cases hl : j < L.length
      · rw [g_append_lt hl] at e
        have := (h x.id j).2 ⟨j, rfl, hl, e⟩
        rw [hx] at this; cases this
      · rw [show j = L.length by omega]
  · rw [upd_other _ _ e1, h]
    constructor
    · rintro ⟨j, rfl, hj, e⟩; exact ⟨j, rfl, by omega, by rw [g_append_lt hj]; exact e⟩
    · rintro ⟨j, rfl, hj, e⟩
      by_cases hl : j < L.length
      · rw [g_append_lt hl] at e; exact ⟨j, rfl, hl, e⟩
      · rw [show j = L.length by omega, g_append_last] at e; exact absurd e.symm e1
theorem IsIdx.pop {L : List Ent} {f : Int → Option Int} (h : IsIdx L f) (hl : 0 < L.length) : IsIdx L.dropLast (upd f (Hp.g L (L.length - 1)).id none) := by
  intro id n
  rw [List.length_dropLast]
  by_cases e1 : id = (Hp.g L (L.length - 1)).id
  · subst e1
    rw [upd_same]
    constructor
    · intro e; cases e
    · rintro ⟨j, rfl, hj, e⟩
      rw [Hp.g_dropLast _ _ hj] at e
      have := h.inj (by omega) (by omega) e
      omega
  · rw [upd_other _ _ e1, h]
    constructor
    · rintro ⟨j, rfl, hj, e⟩
      have : j ≠ L.length - 1 := by rintro rfl; exact e1 e.symm
      exact ⟨j, rfl, by omega, by rw [Hp.g_dropLast _ _ (by omega)]; exact e⟩
    · rintro ⟨j, rfl, hj, e⟩
      rw [Hp.g_dropLast _ _ hj] at e
      exact ⟨j, rfl, by omega, e⟩
theorem IsIdx.set {L : List Ent} {f : Int → Option Int} (h : IsIdx L f) {i : Nat} (hi : i < L.length) {x : Ent} (hx : x.id = (Hp.g L i).id) : IsIdx (L.set i x) f := by
  intro id n
  rw [h, List.length_set]
  constructor
  · rintro ⟨j, rfl, hj, e⟩
    refine ⟨j, rfl, hj, ?_⟩
    rw [Hp.g_set _ _ _ _ hi]
    split
    · rename_i e1; subst e1; rw [hx]; exact e
    · exact e
  · rintro ⟨j, rfl, hj, e⟩
    refine ⟨j, rfl, hj, ?_⟩
    rw [Hp.g_set _ _ _ _ hi] at e
    split at e
    · rename_i e1; subst e1; rw [← hx]; exact e
    · exact e
theorem IsIdx.nil : IsIdx [] (fun _ => none) := by
  intro id n
  constructor
  · intro h; cases h
  · rintro ⟨i, _, h, _⟩; simp at h

/-- A slice of structs in which one is another now. -/
theorem take_splice_set {α : Type} {enc : α → List Value} {sz : Nat} (hsz : ∀ x, (enc x).length = sz) (hpos : 0 < sz) {L : List α} {cur : Array Value} {n : Nat} (h : cur.toList.take (n * sz) = L.flatMap enc) (hn : L.length = n) (hle : n * sz ≤ cur.size)
    {i : Nat} (hi : i < n) (e : α) : (splice cur (i * sz) (enc e)).toList.take (n * sz) = (L.set i e).flatMap enc := by
  have hi2 : i * sz + sz ≤ n * sz := by
    have := Nat.mul_le_mul_right sz (show i + 1 ≤ n by omega)
    rw [Nat.add_mul] at this; omega
  apply List.ext_getElem?
  intro j
  by_cases hj : j < n * sz
  · have hq : j / sz < n := (Nat.div_lt_iff_lt_mul hpos).2 hj
    have hr : j % sz < sz := Nat.mod_lt _ hpos
    have hjj : j = j / sz * sz + j % sz := by rw [Nat.mul_comm]; exact (Nat.div_add_mod j sz).symm
    rw [List.getElem?_take, if_pos hj]
    have h1 : (splice cur (i * sz) (enc e)).toList[j]? = (splice cur (i * sz) (enc e))[j]? := by simp
    rw [h1, splice_get (by rw [hsz]; omega)]
    obtain ⟨x, hx⟩ : ∃ x, L[j / sz]? = some x := ⟨_, List.getElem?_eq_getElem (by omega)⟩
    have hcur : cur[j]? = (enc x)[j % sz]? := by
      rw [← flat_get hsz L (j / sz) (j % sz) x hx hr, ← hjj, ← h, List.getElem?_take, if_pos hj]; simp
    by_cases e1 : j / sz = i
    · have hs : (L.set i e)[j / sz]? = some e := by rw [e1, List.getElem?_set]; simp; omega
      have := flat_get hsz (L.set i e) (j / sz) (j % sz) e hs hr
      rw [← hjj] at this
      rw [this, if_neg (by rw [← e1]; omega), if_pos (by rw [hsz, ← e1]; omega)]
      congr 1
      rw [← e1]; omega
    · have hs : (L.set i e)[j / sz]? = some x := by rw [List.getElem?_set, if_neg (Ne.symm e1)]; exact hx
      have := flat_get hsz (L.set i e) (j / sz) (j % sz) x hs hr
      rw [← hjj] at this
      rw [this, hcur]
      have : j < i * sz ∨ i * sz + sz ≤ j := by
        rcases Nat.lt_or_gt_of_ne e1 with h2 | h2
        · left
          have := Nat.mul_le_mul_right sz (show j / sz + 1 ≤ i by omega)
          rw [Nat.add_mul] at this; omega
        · right
          have := Nat.mul_le_mul_right sz (show i + 1 ≤ j / sz by omega)
          rw [Nat.add_mul] at this; omega
      rcases this with h2 | h2
      · rw [if_pos h2]
      · rw [if_neg (by omega), if_neg (by rw [hsz]; omega)]
  · rw [List.getElem?_eq_none (by rw [List.length_take]; omega), List.getElem?_eq_none (by rw [flat_length hsz, List.length_set, hn]; omega)]
theorem cur_at {α : Type} {enc : α → List Value} {sz : Nat} (hsz : ∀ x, (enc x).length = sz) {L : List α} {cur : Array Value} {n : Nat} (h : cur.toList.take (n * sz) = L.flatMap enc) {i : Nat} {x : α} (hx : L[i]? = some x) (j : Nat) (u : Value)
    (hu : (enc x)[j]? = some u) : cur[i * sz + j]? = some u := by
  have hj : j < sz := by have := (List.getElem?_eq_some_iff.1 hu).1; rwa [hsz] at this
  have h1 := flat_get hsz L i j x hx hj
  rw [hu, ← h, List.getElem?_take] at h1
  split at h1
  · simpa using h1
  · cases h1
theorem g_get {L : List Ent} {i : Nat} (h : i < L.length) : L[i]? = some (Hp.g L i) := by
  simp [Hp.g, List.getD_eq_getElem?_getD, List.getElem?_eq_getElem h]

/-- The queue's pile: its entries, and of each id the place. -/
def pile (p : Nat) (L : List Ent) : HP := hex fun (x : Value × Nat × (Int → Option Int)) => lift (IsIdx L x.2.2)
  (blk p (.cells #[x.1, .map (some x.2.1)] 198) • arr 332 2 x.1 L.length (L.flatMap Ent.enc) • mp x.2.1 x.2.2)
section
variable {B : Nat} {w0 w w' : World} {F : HP} {p : Nat} {L : List Ent}
theorem Sat.pile_open (h : Sat B w0 w (pile p L • F)) : ∃ v mb f, IsIdx L f ∧ Sat B w0 w (blk p (.cells #[v, .map (some mb)] 198) • arr 332 2 v L.length (L.flatMap Ent.enc) • mp mb f • F) := by
  unfold pile at h
  rw [hex_star] at h
  obtain ⟨⟨v, mb, f⟩, h⟩ := h.ex
  rw [lift_star] at h
  obtain ⟨hi, h⟩ := h.lift
  rw [star_assoc, star_assoc] at h
  exact ⟨v, mb, f, hi, h⟩
theorem Sat.pile_shut {v : Value} {mb : Nat} {f : Int → Option Int} (hi : IsIdx L f) (h : Sat B w0 w (blk p (.cells #[v, .map (some mb)] 198) • arr 332 2 v L.length (L.flatMap Ent.enc) • mp mb f • F)) : Sat B w0 w (pile p L • F) := by
  unfold pile
  rw [hex_star]
  refine Sat.ex_mk (⟨v, mb, f⟩ : Value × Nat × (Int → Option Int)) ?_
  rw [lift_star]
  refine Sat.lift_mk hi ?_
  rw [star_assoc, star_assoc]
  exact h
/-- The pile with an entry in it, its array open. -/
theorem Sat.pile_row (h : Sat B w0 w (pile p L • F)) (hl : 0 < L.length) : ∃ g cap cur mb f, IsIdx L f ∧ L.length ≤ cap ∧ cap ≤ maxLen ∧ cur.size = cap * 2 ∧ cur.toList.take (L.length * 2) = L.flatMap Ent.enc ∧
    Sat B w0 w (blk p (.cells #[.slice (some ⟨g, 0, none⟩) L.length cap, .map (some mb)] 198) • blk g (.cells cur 332 (0, 0)) • mp mb f • F) := by
  obtain ⟨v, mb, f, hi, h⟩ := h.pile_open
  rcases h.pull2.arr_open with ⟨_, h0, _, _⟩ | ⟨g, cap, cur, rfl, h1, h2, h3, h4, h5⟩
  · omega
  · exact ⟨g, cap, cur, mb, f, hi, h1, h2, h3, h4, h5.pull2⟩
theorem Sat.pile_row_shut {g cap : Nat} {cur : Array Value} {mb : Nat} {f : Int → Option Int} (hi : IsIdx L f) (h1 : L.length ≤ cap) (h2 : cap ≤ maxLen) (h3 : cur.size = cap * 2) (h4 : cur.toList.take (L.length * 2) = L.flatMap Ent.enc)
    (h : Sat B w0 w (blk p (.cells #[.slice (some ⟨g, 0, none⟩) L.length cap, .map (some mb)] 198) • blk g (.cells cur 332 (0, 0)) • mp mb f • F)) : Sat B w0 w (pile p L • F) :=
  Sat.pile_shut hi (Sat.arr_shut h1 h2 h3 h4 h.pull2).pull2
theorem ent_load {g n : Nat} {cur : Array Value} {fr : Nat × Nat} {t : TypeId} (hg : w.heap[g]? = some (.cells cur t fr)) (h4 : cur.toList.take (n * 2) = L.flatMap Ent.enc) {i : Nat} (hi : i < L.length) :
    (Instr.loadAt 332 (.pointer (some ⟨g, i * 2, none⟩))).run Tryz.prog w = .ok (.agg (Hp.g L i).enc.toArray) w :=
  run_loadAt_row hg Tryz.underlying332 rfl (by rw [Ent.enc_length]; kernel_rfl) (cur_at Ent.enc_length h4 (g_get hi))
theorem pileLen_any (h : Sat B w0 w (pile p L • F)) : Calls Tryz.prog 302 #[.pointer (some ⟨p, 0, none⟩)] w fun e w' => e = .returned (.int .i64 L.length) ∧ w' = w := by
  obtain ⟨v, mb, f, hi, h⟩ := h.pile_open
  obtain ⟨a, c, rfl⟩ := h.pull2.arr_form
  have hc : w.cell? ⟨p, 0, none⟩ = some (.slice a L.length c) := by simp [World.cell?, h.heap]
  go_enter Tryz.func302, Tryz.ntmps302
  go_wp2
  go_ret
  exact ⟨rfl, rfl⟩
set_option maxRecDepth 8000 in
set_option maxHeartbeats 1000000 in
theorem pileLess_any (h : Sat B w0 w (pile p L • F)) {i k : Nat} (hi : i < L.length) (hk : k < L.length) : Calls Tryz.prog 417 #[.pointer (some ⟨p, 0, none⟩), .int .i64 i, .int .i64 k] w fun e w' =>
    e = .returned (.bool ((Hp.g L i).lt (Hp.g L k))) ∧ Below w.heap.size w w' := by
  obtain ⟨g, cap, cur, mb, f, hx, h1, h2, h3, h4, hS⟩ := h.pile_row (by omega)
  have hmx : L.length ≤ 9223372036854775807 := by unfold maxLen at h2; omega
  have hS' := hS.drew
  clear hS h
  go_enter Tryz.func417, Tryz.ntmps417
  go_wp2_with fail
  refine wp_region_ord [(0, .pure), (1, .pure), (2, .pure), (3, .quiet), (4, .pure), (5, .pure), (6, .quiet), (7, .pure), (8, .pure), (9, .pure), (10, .quiet), (11, .pure), (12, .pure), (13, .quiet), (14, .acts), (15, .pure), (16, .pure)] (by kernel_rfl) (by kernel_rfl)
    (fun w' => Sat B w0 w' (blk p (.cells #[.slice (some ⟨g, 0, none⟩) L.length cap, .map (some mb)] 198) • blk g (.cells cur 332 (0, 0)) • mp mb f • F)) hS' ?_
  iterate 3 (refine ord_pure rfl rfl rfl (fun K' hK => ?_); go_big_quiet_op; refine hK _ ?_; clear hK K')
  refine ord_load (t := 196) rfl rfl rfl (p := .pointer (some ⟨p, 0, none⟩)) (v := .slice (some ⟨g, 0, none⟩) L.length cap) rfl (fun w' hC => run_loadAt_one hC.heap Tryz.underlying196 rfl rfl) (fun K' hK => ?_)
  go_simp
  refine hK _ ?_
  clear hK K'
  iterate 2 (refine ord_pure rfl rfl rfl (fun K' hK => ?_); go_big_quiet_op; refine hK _ ?_; clear hK K')
  refine ord_load (t := 332) rfl rfl rfl (p := .pointer (some ⟨g, i * 2, none⟩)) (v := .agg (Hp.g L i).enc.toArray) rfl (fun w' hC => ent_load hC.pull2.heap h4 hi) (fun K' hK => ?_)
  go_simp
  refine hK _ ?_
  clear hK K'
  iterate 3 (refine ord_pure rfl rfl rfl (fun K' hK => ?_); go_big_quiet_op; refine hK _ ?_; clear hK K')
  refine ord_load (t := 196) rfl rfl rfl (p := .pointer (some ⟨p, 0, none⟩)) (v := .slice (some ⟨g, 0, none⟩) L.length cap) rfl (fun w' hC => run_loadAt_one hC.heap Tryz.underlying196 rfl rfl) (fun K' hK => ?_)
  go_simp
  refine hK _ ?_
  clear hK K'
  iterate 2 (refine ord_pure rfl rfl rfl (fun K' hK => ?_); go_big_quiet_op; refine hK _ ?_; clear hK K')
  refine ord_load (t := 332) rfl rfl rfl (p := .pointer (some ⟨g, k * 2, none⟩)) (v := .agg (Hp.g L k).enc.toArray) rfl (fun w' hC => ent_load hC.pull2.heap h4 hk) (fun K' hK => ?_)
  go_simp
  refine hK _ ?_
  clear hK K'
  refine ord_acts rfl rfl (fun K' hK => ?_)
  go_simp
  refine (compare_any _ _ _).mono ?_
  rintro e w1 ⟨rfl, hb⟩
  refine hK _ _ (hS'.below_ hb) ?_
  clear hK K'
  go_simp
  iterate 2 (refine ord_pure rfl rfl rfl (fun K' hK => ?_); go_big_quiet_op; refine hK _ ?_; clear hK K')
  refine ord_nil ?_
  go_wp2_with fail
  go_ret
  refine ⟨?_, Below.trans ?_ hb⟩
  · rw [cmpE_lt]; rfl
  · exact (Below.refl _ _).drew
end
end Go.Proofs.YtdcekoocnoackaaGreatDoor
