import Derived.Test.YtepaanpdjadakaaGreatDoorProg
import Derived.KernelRfl
import Derived.Test.YtepaanpdjadakaaGreatDoorBase
import Derived.WalkLawsBesides
import Derived.WalkSpells
import Derived.Lib.Hide

/-! Which entry ends first. -/
namespace Go.Proofs.YtepaanpdjadakaaGreatDoor
open Go Go.RowKit

def Ent.enc (e : Ent) : List Value := [.int .i64 e.id, .int .u64 e.due]
theorem Ent.enc_length (e : Ent) : e.enc.length = 2 := rfl
theorem Ent.enc_one (e : Ent) : ∀ u ∈ e.enc, u.oneCell' = true := by
  intro u hu
  simp only [Ent.enc, List.mem_cons, List.not_mem_nil, or_false] at hu
  rcases hu with rfl | rfl <;> rfl
def cmpI (x y : Int) : Int := if x < y then -1 else if y < x then 1 else 0
def orI (a b : Int) : Int := if a = 0 then b else a
def cmpE (a b : Ent) : Int := orI (cmpI a.due b.due) (cmpI a.id b.id)
theorem cmpE_lt (a b : Ent) : (decide (cmpE a b < 0)) = a.lt b := by
  rw [Bool.eq_iff_iff, Ent.lt_iff]
  unfold cmpE orI cmpI
  simp only [decide_eq_true_eq]
  repeat' split
  all_goals omega

theorem isNaNU_any (x : Int) (w : World) : Calls Tryz.prog 57 #[.int .u64 x] w fun e w' => e = .returned (.bool false) ∧ w' = w := by
  have hx : (x != x) = false := by simp
  go_enter Tryz.func57, Tryz.ntmps57
  go_wp2
  go_ret
  exact ⟨rfl, rfl⟩
theorem cmpU_any (x y : Int) (w : World) : Calls Tryz.prog 42 #[.int .u64 x, .int .u64 y] w fun e w' => e = .returned (.int .i64 (cmpI x y)) ∧ w' = w := by
  unfold cmpI
  by_cases h1 : x < y
  · go_enter Tryz.func42, Tryz.ntmps42
    go_wp2_with fail
    refine (isNaNU_any x _).mono ?_
    rintro e w1 ⟨rfl, rfl⟩
    go_wp2_with fail
    refine (isNaNU_any y _).mono ?_
    rintro e w1 ⟨rfl, rfl⟩
    go_wp2_with fail
    go_ret
    exact ⟨rfl, rfl⟩
  · have h1' : y ≤ x := by omega
    by_cases h2 : y < x
    · go_enter Tryz.func42, Tryz.ntmps42
      go_wp2_with fail
      refine (isNaNU_any x _).mono ?_
      rintro e w1 ⟨rfl, rfl⟩
      go_wp2_with fail
      refine (isNaNU_any y _).mono ?_
      rintro e w1 ⟨rfl, rfl⟩
      go_wp2_with fail
      go_ret
      exact ⟨rfl, rfl⟩
    · have h2' : x ≤ y := by omega
      go_enter Tryz.func42, Tryz.ntmps42
      go_wp2_with fail
      refine (isNaNU_any x _).mono ?_
      rintro e w1 ⟨rfl, rfl⟩
      go_wp2_with fail
      refine (isNaNU_any y _).mono ?_
      rintro e w1 ⟨rfl, rfl⟩
      go_wp2_with fail
      go_ret
      exact ⟨rfl, rfl⟩

theorem isNaNS_any (x : Int) (w : World) : Calls Tryz.prog 110 #[.int .i64 x] w fun e w' => e = .returned (.bool false) ∧ w' = w := by
  have hx : (x != x) = false := by simp
  go_enter Tryz.func110, Tryz.ntmps110
  go_wp2
  go_ret
  exact ⟨rfl, rfl⟩
theorem cmpS_any (x y : Int) (w : World) : Calls Tryz.prog 109 #[.int .i64 x, .int .i64 y] w fun e w' => e = .returned (.int .i64 (cmpI x y)) ∧ w' = w := by
  unfold cmpI
  by_cases h1 : x < y
  · go_enter Tryz.func109, Tryz.ntmps109
    go_wp2_with fail
    refine (isNaNS_any x _).mono ?_
    rintro e w1 ⟨rfl, rfl⟩
    go_wp2_with fail
    refine (isNaNS_any y _).mono ?_
    rintro e w1 ⟨rfl, rfl⟩
    go_wp2_with fail
    go_ret
    exact ⟨rfl, rfl⟩
  · have h1' : y ≤ x := by omega
    by_cases h2 : y < x
    · go_enter Tryz.func109, Tryz.ntmps109
      go_wp2_with fail
      refine (isNaNS_any x _).mono ?_
      rintro e w1 ⟨rfl, rfl⟩
      go_wp2_with fail
      refine (isNaNS_any y _).mono ?_
      rintro e w1 ⟨rfl, rfl⟩
      go_wp2_with fail
      go_ret
      exact ⟨rfl, rfl⟩
    · have h2' : x ≤ y := by omega
      go_enter Tryz.func109, Tryz.ntmps109
      go_wp2_with fail
      refine (isNaNS_any x _).mono ?_
      rintro e w1 ⟨rfl, rfl⟩
      go_wp2_with fail
      refine (isNaNS_any y _).mono ?_
      rintro e w1 ⟨rfl, rfl⟩
      go_wp2_with fail
      go_ret
      exact ⟨rfl, rfl⟩

theorem or_any (a b : Int) (v : Value) (w : World) (h : Reads w v 2 [.int .i64 a, .int .i64 b]) : Calls Tryz.prog 108 #[v] w fun e w' => e = .returned (.int .i64 (orI a b)) ∧ w' = w := by
  rcases h with ⟨_, _, h0, _⟩ | ⟨ad, c, rfl, hc⟩
  · omega
  have hcell : ∀ k, k < 2 → w.cell? (ad.add k) = some (.int .i64 (nth [a, b] k)) := by
    intro k hk
    refine hc k _ ?_
    rcases k with _ | _ | k
    · rfl
    · rfl
    · omega
  have hend : a = 0 → b = 0 → orI a b = 0 := by intro h1 h2; unfold orI; rw [if_pos h1]; exact h2
  have hend0 : a ≠ 0 → orI a b = nth [a, b] 0 := by intro h1; unfold orI; rw [if_neg h1]; rfl
  have hend1 : a = 0 → orI a b = nth [a, b] 1 := by intro h1; unfold orI; rw [if_pos h1]; rfl
  generalize hR : orI a b = R at *
  have Hend := Lib.hid hend
  have Hend0 := Lib.hid hend0
  have Hend1 := Lib.hid hend1
  clear hend hend0 hend1 hR hc
  go_enter Tryz.func108, Tryz.ntmps108
  go_wp2_with fail
  go_loop [8] (fun i => ∃ k : Nat, k ≤ 2 ∧ i = .int .i64 k ∧ Hid ((0 < k → a = 0) ∧ (1 < k → b = 0))) (fun i => 2 - (intOf i).toNat)
  case atStart => exact ⟨0, by omega, rfl, Lib.hid ⟨by omega, by omega⟩⟩
  case round =>
    obtain ⟨k, hk, rfl, HK⟩ := hrel
    by_cases hlt : k < 2
    · have hck := hcell k hlt
      clear hcell
      by_cases hz : nth [a, b] k = 0
      · have hz1 : (nth [a, b] k != 0) = false := by simpa using hz
        have HZ := Lib.hid hz
        clear hz
        go_wp2_with fail
        go_round
        case rel =>
          refine ⟨k + 1, by omega, by go_num, Lib.hid ⟨fun _ => ?_, fun h => ?_⟩⟩
          · rcases k with _ | k
            · exact HZ.out
            · exact HK.out.1 (by omega)
          · obtain rfl : k = 1 := by omega
            exact HZ.out
        case measure => simp [intOf]; omega
      · have hz1 : (nth [a, b] k != 0) = true := by simpa using hz
        go_wp2_with fail
        go_ret
        refine ⟨?_, rfl⟩
        rcases k with _ | _ | k
        · rw [Hend0.out hz]; rfl
        · rw [Hend1.out (HK.out.1 (by omega))]; rfl
        · omega
    · obtain rfl : k = 2 := by omega
      go_wp2_with fail
      go_ret
      refine ⟨?_, rfl⟩
      rw [Hend.out (HK.out.1 (by omega)) (HK.out.2 (by omega))]; rfl
set_option maxRecDepth 8000 in
set_option maxHeartbeats 1000000 in
theorem compare_any (a b : Ent) (w : World) : Calls Tryz.prog 107 #[.agg a.enc.toArray, .agg b.enc.toArray] w fun e w' => e = .returned (.int .i64 (cmpE a b)) ∧ Below w.heap.size w w' := by
  obtain ⟨ai, ad⟩ := a
  obtain ⟨bi, bd⟩ := b
  simp only [Ent.enc, cmpE]
  go_enter Tryz.func107, Tryz.ntmps107
  go_wp2_with fail
  have hS := ((Sat.start w).alloc (.cells #[.int .i64 ai, .int .u64 ad] 113)).alloc (.cells #[.int .i64 bi, .int .u64 bd] 113)
  rw [World.size_alloc] at hS
  generalize hW : (w.alloc (.cells #[.int .i64 ai, .int .u64 ad] 113)).alloc (.cells #[.int .i64 bi, .int .u64 bd] 113) = W at *
  have hS' := hS.drew
  clear hW
  refine wp_region_ord [(0, .pure), (1, .quiet), (2, .pure), (3, .quiet), (5, .pure), (6, .quiet), (7, .pure), (8, .quiet), (4, .acts), (9, .acts), (10, .acts), (11, .acts), (12, .pure)] (by kernel_rfl) (by kernel_rfl)
    (fun w' => Sat w.heap.size w w' (blk (w.heap.size + 1) (.cells #[.int .i64 bi, .int .u64 bd] 113) • blk w.heap.size (.cells #[.int .i64 ai, .int .u64 ad] 113) • emp)) hS' ?_
  iterate 1 (refine ord_pure rfl rfl rfl (fun K' hK => ?_); go_big_quiet_op; refine hK _ ?_; clear hK K')
  refine ord_load (t := 30) rfl rfl rfl (p := .pointer (some ⟨w.heap.size, 1, none⟩)) (v := .int .u64 ad) rfl (fun w' hC => run_loadAt_one hC.pull2.heap Tryz.underlying30 rfl rfl) (fun K' hK => ?_)
  go_simp
  refine hK _ ?_
  clear hK K'
  iterate 1 (refine ord_pure rfl rfl rfl (fun K' hK => ?_); go_big_quiet_op; refine hK _ ?_; clear hK K')
  refine ord_load (t := 30) rfl rfl rfl (p := .pointer (some ⟨w.heap.size + 1, 1, none⟩)) (v := .int .u64 bd) rfl (fun w' hC => run_loadAt_one hC.heap Tryz.underlying30 rfl rfl) (fun K' hK => ?_)
  go_simp
  refine hK _ ?_
  clear hK K'
  iterate 1 (refine ord_pure rfl rfl rfl (fun K' hK => ?_); go_big_quiet_op; refine hK _ ?_; clear hK K')
  refine ord_load (t := 3) rfl rfl rfl (p := .pointer (some ⟨w.heap.size, 0, none⟩)) (v := .int .i64 ai) rfl (fun w' hC => run_loadAt_one hC.pull2.heap Tryz.underlying3 rfl rfl) (fun K' hK => ?_)
  go_simp
  refine hK _ ?_
  clear hK K'
  iterate 1 (refine ord_pure rfl rfl rfl (fun K' hK => ?_); go_big_quiet_op; refine hK _ ?_; clear hK K')
  refine ord_load (t := 3) rfl rfl rfl (p := .pointer (some ⟨w.heap.size + 1, 0, none⟩)) (v := .int .i64 bi) rfl (fun w' hC => run_loadAt_one hC.heap Tryz.underlying3 rfl rfl) (fun K' hK => ?_)
  go_simp
  refine hK _ ?_
  clear hK K'
  refine ord_acts rfl rfl (fun K' hK => ?_)
  go_simp
  refine (cmpU_any ad bd _).mono ?_
  rintro e w1 ⟨rfl, rfl⟩
  refine hK _ _ hS' ?_
  clear hK K'
  go_simp
  refine ord_acts rfl rfl (fun K' hK => ?_)
  go_simp
  refine (cmpS_any ai bi _).mono ?_
  rintro e w1 ⟨rfl, rfl⟩
  refine hK _ _ hS' ?_
  clear hK K'
  go_simp
  refine ord_acts rfl rfl (fun K' hK => ?_)
  refine wp_buildSlice_row (t := 67) rfl [.int .i64 (cmpI ad bd), .int .i64 (cmpI ai bi)] rfl (by simp [Act.eval]) Tryz.underlying67 (show (Tryz.prog.info? 3).map (fun i => (i.zero, i.size)) = some (some (.int .i64 0), 1) by kernel_rfl) (by simp [Value.cells]) (by decide) (by decide) ?_
  rw [show ([.int .i64 (cmpI ad bd), .int .i64 (cmpI ai bi)] : List Value).flatMap (fun v => v.cells.toList) = [.int .i64 (cmpI ad bd), .int .i64 (cmpI ai bi)] from rfl]
  have hR : Reads (W.drew.alloc (.cells [.int .i64 (cmpI ad bd), .int .i64 (cmpI ai bi)].toArray 3)) (.slice (some ⟨W.drew.heap.size, 0, none⟩) 2 2) 2 [.int .i64 (cmpI ad bd), .int .i64 (cmpI ai bi)] := reads_new
  have hS2 := hS'.alloc_ (.cells [.int .i64 (cmpI ad bd), .int .i64 (cmpI ai bi)].toArray 3)
  refine hK _ _ hS2 ?_
  clear hK K'
  go_simp
  refine ord_acts rfl rfl (fun K' hK => ?_)
  go_simp
  refine (or_any _ _ _ _ hR).mono ?_
  rintro e w1 ⟨rfl, rfl⟩
  refine hK _ _ hS2 ?_
  clear hK K'
  go_simp
  iterate 1 (refine ord_pure rfl rfl rfl (fun K' hK => ?_); go_big_quiet_op; refine hK _ ?_; clear hK K')
  refine ord_nil ?_
  go_wp2_with fail
  go_ret
  exact ⟨rfl, hS2.below⟩
end Go.Proofs.YtepaanpdjadakaaGreatDoor

/-! The queue's pile: what it is; Len and Less. -/
namespace Go.Proofs.YtepaanpdjadakaaGreatDoor
open Go Go.RowKit

/-- Of each id its place. -/
def IsIdx (L : List Ent) (f : Int → Option Int) : Prop := ∀ id n : Int, f id = some n ↔ ∃ i : Nat, n = i ∧ i < L.length ∧ (Hp.g L i).id = id
theorem IsIdx.inj {L : List Ent} {f : Int → Option Int} (h : IsIdx L f) {i j : Nat} (hi : i < L.length) (hj : j < L.length) (e : (Hp.g L i).id = (Hp.g L j).id) : i = j := by
  have h1 := (h _ _).2 ⟨i, rfl, hi, rfl⟩
  have h2 := (h _ _).2 ⟨j, rfl, hj, rfl⟩
  rw [e, h2] at h1
  have := Option.some.inj h1
  omega
theorem IsIdx.swap {L : List Ent} {f : Int → Option Int} (h : IsIdx L f) {i k : Nat} (hi : i < L.length) (hk : k < L.length) :
    IsIdx (Hp.swap L i k) (upd (upd f (Hp.g L k).id (some i)) (Hp.g L i).id (some k)) := by
  intro id n
  have hg := fun x => Hp.g_swap L i k x hi hk
  rw [Hp.swap_length]
  by_cases e1 : id = (Hp.g L i).id
  · subst e1
    rw [upd_same]
    constructor
    · intro e
      refine ⟨k, (Option.some.inj e).symm, hk, ?_⟩
      rw [hg, if_pos rfl]
    · rintro ⟨j, rfl, hj, e⟩
      rw [hg] at e
      split at e
      · rename_i e2; rw [e2]
      · split at e
        · rename_i e2 e3
          exact absurd ((h.inj hk hi e).trans e3.symm).symm e2
        · rename_i e2 e3
          exact absurd (h.inj hj hi e) e3
  · rw [upd_other _ _ e1]
    by_cases e2 : id = (Hp.g L k).id
    · subst e2
      rw [upd_same]
      constructor
      · intro e
        refine ⟨i, (Option.some.inj e).symm, hi, ?_⟩
        rw [hg]
        split
        · rename_i e3; subst e3; exact absurd rfl e1
        · rw [if_pos rfl]
      · rintro ⟨j, rfl, hj, e⟩
        rw [hg] at e
        split at e
        · exact absurd e.symm e1
        · split at e
          · rename_i e3 e4; rw [e4]
          · rename_i e3 e4; exact absurd (h.inj hj hk e) e3
    · rw [upd_other _ _ e2, h]
      constructor
      · rintro ⟨j, rfl, hj, e⟩
        refine ⟨j, rfl, hj, ?_⟩
        rw [hg, if_neg (by rintro rfl; exact e2 e.symm), if_neg (by rintro rfl; exact e1 e.symm)]
        exact e
      · rintro ⟨j, rfl, hj, e⟩
        refine ⟨j, rfl, hj, ?_⟩
        rw [hg] at e
        split at e
        · exact absurd e.symm e1
        · split at e
          · exact absurd e.symm e2
          · exact e
theorem g_append_lt {L : List Ent} {x : Ent} {i : Nat} (h : i < L.length) : Hp.g (L ++ [x]) i = Hp.g L i := by
  simp [Hp.g, List.getD_eq_getElem?_getD, List.getElem?_append_left h]
theorem g_append_last (L : List Ent) (x : Ent) : Hp.g (L ++ [x]) L.length = x := by
  simp [Hp.g, List.getD_eq_getElem?_getD]
theorem IsIdx.push {L : List Ent} {f : Int → Option Int} (h : IsIdx L f) {x : Ent} (hx : f x.id = none) : IsIdx (L ++ [x]) (upd f x.id (some L.length)) := by
  intro id n
  rw [List.length_append, List.length_singleton]
  by_cases e1 : id = x.id
  · subst e1
    rw [upd_same]
    constructor
    · intro e; exact ⟨L.length, (Option.some.inj e).symm, by omega, by rw [g_append_last]⟩
    · rintro ⟨j, rfl, hj, e⟩
      by_cases hl : j < L.length
      · rw [g_append_lt hl] at e
        have := (h x.id j).2 ⟨j, rfl, hl, e⟩
        rw [hx] at this; cases this
      · rw [show j = L.length by omega]
  · rw [upd_other _ _ e1, h]
    constructor
    · rintro ⟨j, rfl, hj, e⟩; exact ⟨j, rfl, by omega, by rw [g_append_lt hj]; exact e⟩
    · rintro ⟨j, rfl, hj, e⟩
      by_cases hl : j < L.length
      · rw [g_append_lt hl] at e; exact ⟨j, rfl, hl, e⟩
      · rw [show j = L.length by omega, g_append_last] at e; exact absurd e.symm e1
theorem IsIdx.pop {L : List Ent} {f : Int → Option Int} (h : IsIdx L f) (hl : 0 < L.length) : IsIdx L.dropLast (upd f (Hp.g L (L.length - 1)).id none) := by
  intro id n
  rw [List.length_dropLast]
  by_cases e1 : id = (Hp.g L (L.length - 1)).id
  · subst e1
    rw [upd_same]
    constructor
    · intro e; cases e
    · rintro ⟨j, rfl, hj, e⟩
      rw [Hp.g_dropLast _ _ hj] at e
      have := h.inj (by omega) (by omega) e
      omega
  · rw [upd_other _ _ e1, h]
    constructor
    · rintro ⟨j, rfl, hj, e⟩
      have : j ≠ L.length - 1 := by rintro rfl; exact e1 e.symm
      exact ⟨j, rfl, by omega, by rw [Hp.g_dropLast _ _ (by omega)]; exact e⟩
    · rintro ⟨j, rfl, hj, e⟩
      rw [Hp.g_dropLast _ _ hj] at e
      exact ⟨j, rfl, by omega, e⟩
theorem IsIdx.set {L : List Ent} {f : Int → Option Int} (h : IsIdx L f) {i : Nat} (hi : i < L.length) {x : Ent} (hx : x.id = (Hp.g L i).id) : IsIdx (L.set i x) f := by
  intro id n
  rw [h, List.length_set]
  constructor
  · rintro ⟨j, rfl, hj, e⟩
    refine ⟨j, rfl, hj, ?_⟩
    rw [Hp.g_set _ _ _ _ hi]
    split
    · rename_i e1; subst e1; rw [hx]; exact e
    · exact e
  · rintro ⟨j, rfl, hj, e⟩
    refine ⟨j, rfl, hj, ?_⟩
    rw [Hp.g_set _ _ _ _ hi] at e
    split at e
    · rename_i e1; subst e1; rw [← hx]; exact e
    · exact e
theorem IsIdx.nil : IsIdx [] (fun _ => none) := by
  intro id n
  constructor
  · intro h; cases h
  · rintro ⟨i, _, h, _⟩; simp at h

/-- A slice of structs in which one is another now. -/
theorem take_splice_set {α : Type} {enc : α → List Value} {sz : Nat} (hsz : ∀ x, (enc x).length = sz) (hpos : 0 < sz) {L : List α} {cur : Array Value} {n : Nat} (h : cur.toList.take (n * sz) = L.flatMap enc) (hn : L.length = n) (hle : n * sz ≤ cur.size)
    {i : Nat} (hi : i < n) (e : α) : (splice cur (i * sz) (enc e)).toList.take (n * sz) = (L.set i e).flatMap enc := by
  have hi2 : i * sz + sz ≤ n * sz := by
    have := Nat.mul_le_mul_right sz (show i + 1 ≤ n by omega)
    rw [Nat.add_mul] at this; omega
  apply List.ext_getElem?
  intro j
  by_cases hj : j < n * sz
  · have hq : j / sz < n := (Nat.div_lt_iff_lt_mul hpos).2 hj
    have hr : j % sz < sz := Nat.mod_lt _ hpos
    have hjj : j = j / sz * sz + j % sz := by rw [Nat.mul_comm]; exact (Nat.div_add_mod j sz).symm
    rw [List.getElem?_take, if_pos hj]
    have h1 : (splice cur (i * sz) (enc e)).toList[j]? = (splice cur (i * sz) (enc e))[j]? := by simp
    rw [h1, splice_get (by rw [hsz]; omega)]
    obtain ⟨x, hx⟩ : ∃ x, L[j / sz]? = some x := ⟨_, List.getElem?_eq_getElem (by omega)⟩
    have hcur : cur[j]? = (enc x)[j % sz]? := by
      rw [← flat_get hsz L (j / sz) (j % sz) x hx hr, ← hjj, ← h, List.getElem?_take, if_pos hj]; simp
    by_cases e1 : j / sz = i
    · have hs : (L.set i e)[j / sz]? = some e := by rw [e1, List.getElem?_set]; simp; omega
      have := flat_get hsz (L.set i e) (j / sz) (j % sz) e hs hr
      rw [← hjj] at this
      rw [this, if_neg (by rw [← e1]; omega), if_pos (by rw [hsz, ← e1]; omega)]
      congr 1
      rw [← e1]; omega
    · have hs : (L.set i e)[j / sz]? = some x := by rw [List.getElem?_set, if_neg (Ne.symm e1)]; exact hx
      have := flat_get hsz (L.set i e) (j / sz) (j % sz) x hs hr
      rw [← hjj] at this
      rw [this, hcur]
      have : j < i * sz ∨ i * sz + sz ≤ j := by
        rcases Nat.lt_or_gt_of_ne e1 with h2 | h2
        · left
          have := Nat.mul_le_mul_right sz (show j / sz + 1 ≤ i by omega)
          rw [Nat.add_mul] at this; omega
        · right
          have := Nat.mul_le_mul_right sz (show i + 1 ≤ j / sz by omega)
          rw [Nat.add_mul] at this; omega
      rcases this with h2 | h2
      · rw [if_pos h2]
      · rw [if_neg (by omega), if_neg (by rw [hsz]; omega)]
  · rw [List.getElem?_eq_none (by rw [List.length_take]; omega), List.getElem?_eq_none (by rw [flat_length hsz, List.length_set, hn]; omega)]
theorem cur_at {α : Type} {enc : α → List Value} {sz : Nat} (hsz : ∀ x, (enc x).length = sz) {L : List α} {cur : Array Value} {n : Nat} (h : cur.toList.take (n * sz) = L.flatMap enc) {i : Nat} {x : α} (hx : L[i]? = some x) (j : Nat) (u : Value)
    (hu : (enc x)[j]? = some u) : cur[i * sz + j]? = some u := by
  have hj : j < sz := by have := (List.getElem?_eq_some_iff.1 hu).1; rwa [hsz] at this
  have h1 := flat_get hsz L i j x hx hj
  rw [hu, ← h, List.getElem?_take] at h1
  split at h1
  · simpa using h1
  · cases h1
theorem g_get {L : List Ent} {i : Nat} (h : i < L.length) : L[i]? = some (Hp.g L i) := by
  simp [Hp.g, List.getD_eq_getElem?_getD, List.getElem?_eq_getElem h]

/-- The queue's pile: its entries, and of each id the place. -/
def pile (p : Nat) (L : List Ent) : HP := hex fun (x : Value × Nat × (Int → Option Int)) => lift (IsIdx L x.2.2)
  (blk p (.cells #[x.1, .map (some x.2.1)] 106) • arr 113 2 x.1 L.length (L.flatMap Ent.enc) • mp x.2.1 x.2.2)
section
variable {B : Nat} {w0 w w' : World} {F : HP} {p : Nat} {L : List Ent}
theorem Sat.pile_open (h : Sat B w0 w (pile p L • F)) : ∃ v mb f, IsIdx L f ∧ Sat B w0 w (blk p (.cells #[v, .map (some mb)] 106) • arr 113 2 v L.length (L.flatMap Ent.enc) • mp mb f • F) := by
  unfold pile at h
  rw [hex_star] at h
  obtain ⟨⟨v, mb, f⟩, h⟩ := h.ex
  rw [lift_star] at h
  obtain ⟨hi, h⟩ := h.lift
  rw [star_assoc, star_assoc] at h
  exact ⟨v, mb, f, hi, h⟩
theorem Sat.pile_shut {v : Value} {mb : Nat} {f : Int → Option Int} (hi : IsIdx L f) (h : Sat B w0 w (blk p (.cells #[v, .map (some mb)] 106) • arr 113 2 v L.length (L.flatMap Ent.enc) • mp mb f • F)) : Sat B w0 w (pile p L • F) := by
  unfold pile
  rw [hex_star]
  refine Sat.ex_mk (⟨v, mb, f⟩ : Value × Nat × (Int → Option Int)) ?_
  rw [lift_star]
  refine Sat.lift_mk hi ?_
  rw [star_assoc, star_assoc]
  exact h
/-- The pile with an entry in it, its array open. -/
theorem Sat.pile_row (h : Sat B w0 w (pile p L • F)) (hl : 0 < L.length) : ∃ g cap cur mb f, IsIdx L f ∧ L.length ≤ cap ∧ cap ≤ maxLen ∧ cur.size = cap * 2 ∧ cur.toList.take (L.length * 2) = L.flatMap Ent.enc ∧
    Sat B w0 w (blk p (.cells #[.slice (some ⟨g, 0, none⟩) L.length cap, .map (some mb)] 106) • blk g (.cells cur 113 (0, 0)) • mp mb f • F) := by
  obtain ⟨v, mb, f, hi, h⟩ := h.pile_open
  rcases h.pull2.arr_open with ⟨_, h0, _, _⟩ | ⟨g, cap, cur, rfl, h1, h2, h3, h4, h5⟩
  · omega
  · exact ⟨g, cap, cur, mb, f, hi, h1, h2, h3, h4, h5.pull2⟩
theorem Sat.pile_row_shut {g cap : Nat} {cur : Array Value} {mb : Nat} {f : Int → Option Int} (hi : IsIdx L f) (h1 : L.length ≤ cap) (h2 : cap ≤ maxLen) (h3 : cur.size = cap * 2) (h4 : cur.toList.take (L.length * 2) = L.flatMap Ent.enc)
    (h : Sat B w0 w (blk p (.cells #[.slice (some ⟨g, 0, none⟩) L.length cap, .map (some mb)] 106) • blk g (.cells cur 113 (0, 0)) • mp mb f • F)) : Sat B w0 w (pile p L • F) :=
  Sat.pile_shut hi (Sat.arr_shut h1 h2 h3 h4 h.pull2).pull2
theorem ent_load {g n : Nat} {cur : Array Value} {fr : Nat × Nat} {t : TypeId} (hg : w.heap[g]? = some (.cells cur t fr)) (h4 : cur.toList.take (n * 2) = L.flatMap Ent.enc) {i : Nat} (hi : i < L.length) :
    (Instr.loadAt 113 (.pointer (some ⟨g, i * 2, none⟩))).run Tryz.prog w = .ok (.agg (Hp.g L i).enc.toArray) w :=
  run_loadAt_row hg Tryz.underlying113 rfl (by rw [Ent.enc_length]; kernel_rfl) (cur_at Ent.enc_length h4 (g_get hi))
theorem pileLen_any (h : Sat B w0 w (pile p L • F)) : Calls Tryz.prog 79 #[.pointer (some ⟨p, 0, none⟩)] w fun e w' => e = .returned (.int .i64 L.length) ∧ w' = w := by
  obtain ⟨v, mb, f, hi, h⟩ := h.pile_open
  obtain ⟨a, c, rfl⟩ := h.pull2.arr_form
  have hc : w.cell? ⟨p, 0, none⟩ = some (.slice a L.length c) := by simp [World.cell?, h.heap]
  go_enter Tryz.func79, Tryz.ntmps79
  go_wp2
  go_ret
  exact ⟨rfl, rfl⟩
set_option maxRecDepth 8000 in
set_option maxHeartbeats 1000000 in
theorem pileLess_any (h : Sat B w0 w (pile p L • F)) {i k : Nat} (hi : i < L.length) (hk : k < L.length) : Calls Tryz.prog 103 #[.pointer (some ⟨p, 0, none⟩), .int .i64 i, .int .i64 k] w fun e w' =>
    e = .returned (.bool ((Hp.g L i).lt (Hp.g L k))) ∧ Below w.heap.size w w' := by
  obtain ⟨g, cap, cur, mb, f, hx, h1, h2, h3, h4, hS⟩ := h.pile_row (by omega)
  have hmx : L.length ≤ 9223372036854775807 := by unfold maxLen at h2; omega
  have hS' := hS.drew
  clear hS h
  go_enter Tryz.func103, Tryz.ntmps103
  go_wp2_with fail
  refine wp_region_ord [(0, .pure), (1, .pure), (2, .pure), (3, .quiet), (4, .pure), (5, .pure), (6, .quiet), (7, .pure), (8, .pure), (9, .pure), (10, .quiet), (11, .pure), (12, .pure), (13, .quiet), (14, .acts), (15, .pure), (16, .pure)] (by kernel_rfl) (by kernel_rfl)
    (fun w' => Sat B w0 w' (blk p (.cells #[.slice (some ⟨g, 0, none⟩) L.length cap, .map (some mb)] 106) • blk g (.cells cur 113 (0, 0)) • mp mb f • F)) hS' ?_
  iterate 3 (refine ord_pure rfl rfl rfl (fun K' hK => ?_); go_big_quiet_op; refine hK _ ?_; clear hK K')
  refine ord_load (t := 104) rfl rfl rfl (p := .pointer (some ⟨p, 0, none⟩)) (v := .slice (some ⟨g, 0, none⟩) L.length cap) rfl (fun w' hC => run_loadAt_one hC.heap Tryz.underlying104 rfl rfl) (fun K' hK => ?_)
  go_simp
  refine hK _ ?_
  clear hK K'
  iterate 2 (refine ord_pure rfl rfl rfl (fun K' hK => ?_); go_big_quiet_op; refine hK _ ?_; clear hK K')
  refine ord_load (t := 113) rfl rfl rfl (p := .pointer (some ⟨g, i * 2, none⟩)) (v := .agg (Hp.g L i).enc.toArray) rfl (fun w' hC => ent_load hC.pull2.heap h4 hi) (fun K' hK => ?_)
  go_simp
  refine hK _ ?_
  clear hK K'
  iterate 3 (refine ord_pure rfl rfl rfl (fun K' hK => ?_); go_big_quiet_op; refine hK _ ?_; clear hK K')
  refine ord_load (t := 104) rfl rfl rfl (p := .pointer (some ⟨p, 0, none⟩)) (v := .slice (some ⟨g, 0, none⟩) L.length cap) rfl (fun w' hC => run_loadAt_one hC.heap Tryz.underlying104 rfl rfl) (fun K' hK => ?_)
  go_simp
  refine hK _ ?_
  clear hK K'
  iterate 2 (refine ord_pure rfl rfl rfl (fun K' hK => ?_); go_big_quiet_op; refine hK _ ?_; clear hK K')
  refine ord_load (t := 113) rfl rfl rfl (p := .pointer (some ⟨g, k * 2, none⟩)) (v := .agg (Hp.g L k).enc.toArray) rfl (fun w' hC => ent_load hC.pull2.heap h4 hk) (fun K' hK => ?_)
  go_simp
  refine hK _ ?_
  clear hK K'
  refine ord_acts rfl rfl (fun K' hK => ?_)
  go_simp
  refine (compare_any _ _ _).mono ?_
  rintro e w1 ⟨rfl, hb⟩
  refine hK _ _ (hS'.below_ hb) ?_
  clear hK K'
  go_simp
  iterate 2 (refine ord_pure rfl rfl rfl (fun K' hK => ?_); go_big_quiet_op; refine hK _ ?_; clear hK K')
  refine ord_nil ?_
  go_wp2_with fail
  go_ret
  refine ⟨?_, Below.trans ?_ hb⟩
  · rw [cmpE_lt]; rfl
  · exact (Below.refl _ _).drew
end
end Go.Proofs.YtepaanpdjadakaaGreatDoor

/-! The pile's Swap. -/
namespace Go.Proofs.YtepaanpdjadakaaGreatDoor
open Go Go.RowKit

section
variable {P : Program} {w w' : World} {o : Oper} {a : Act} {K : Act → World → Prop} {Q : Exit → Act → World → Prop}
theorem wp_mapEntry_run {t : TypeId} {x y : Operand} (ho : o.op = .mapEntry t x y) {m k v : Value} (hx : a.eval x = m) (hy : a.eval y = k) (hr : (Instr.mapEntry t m k).run P w = .ok v w') (h : K (a.put o.dst v) w') : o.wp P a w K Q := by
  unfold Oper.wp execOp
  simp only [ho, hx, hy, Sem.run_bind, hr, Result.andThen_ok, Sem.run_pure, Oper.upon]
  exact h
theorem wp_entryStore_run {t : TypeId} {x y z : Operand} (ho : o.op = .entryStore t x y z) {m k v : Value} (hx : a.eval x = m) (hy : a.eval y = k) (hz : a.eval z = v) (hr : (Instr.entryStore t m k v).run P w = .ok () w') (h : K (a.put o.dst undef) w') : o.wp P a w K Q := by
  unfold Oper.wp execOp
  simp only [ho, hx, hy, hz, Sem.run_bind, hr, Result.andThen_ok, Sem.run_pure, Oper.upon]
  exact h
theorem wp_mapUpdate_run {t : TypeId} {x y z : Operand} (ho : o.op = .mapUpdate t x y z) {m k v : Value} (hx : a.eval x = m) (hy : a.eval y = k) (hz : a.eval z = v) (hr : (Instr.mapUpdate t m k v).run P w = .ok () w') (h : K (a.put o.dst undef) w') : o.wp P a w K Q := by
  unfold Oper.wp execOp
  simp only [ho, hx, hy, hz, Sem.run_bind, hr, Result.andThen_ok, Sem.run_pure, Oper.upon]
  exact h
theorem wp_lookup_run {t : TypeId} {x y : Operand} {c : Bool} (ho : o.op = .lookup t x y c) {m k v : Value} (hx : a.eval x = m) (hy : a.eval y = k) (hr : (Instr.lookup t m k c).run P w = .ok v w) (h : K (a.put o.dst v) w) : o.wp P a w K Q := by
  unfold Oper.wp execOp
  simp only [ho, hx, hy, Sem.run_bind, hr, Result.andThen_ok, Sem.run_pure, Oper.upon]
  exact h
theorem wpList_lookup_run {ops : Array Oper} {rest : List Oper} (hgd : o.guard = none) {t : TypeId} {x y : Operand} {c : Bool} (ho : o.op = .lookup t x y c) {m k v : Value} (hx : a.eval x = m) (hy : a.eval y = k) (hr : (Instr.lookup t m k c).run P w = .ok v w) (h : wpList P ops Q rest (a.put o.dst v) w) : wpList P ops Q (o :: rest) a w :=
  wpList_plain hgd fun _ hK => wp_lookup_run ho hx hy hr (hK _ _ h)
theorem wp_delete_run {x y : Operand} {t t' : TypeId} (ho : o.op = .call { callee := .builtin .delete, args := #[x, y], argTypes := #[t, t'] }) {m k v : Value} (hx : a.eval x = m) (hy : a.eval y = k) (hr : (Builtin.delete_ #[t, t'] o.type #[m, k]).run P w = .ok v w') (h : K (a.put o.dst v) w') : o.wp P a w K Q := by
  unfold Oper.wp execOp
  simp only [ho, resolve, invoke, builtin, Sem.run_bind, Sem.run_pure, Result.andThen_ok, List.map_toArray, List.map_cons, List.map_nil, hx, hy, hr]
  exact h
theorem wp_alloc_run {t : TypeId} (ho : o.op = .alloc t) {z : Value} (hi : (P.info? t).map (·.zero) = some (some z)) (h : K (a.put o.dst (.pointer (some ⟨w.heap.size, 0, none⟩))) (w.alloc (.cells z.cells t))) : o.wp P a w K Q := by
  cases hq : P.info? t with
  | none => simp [hq] at hi
  | some i =>
    have hz : i.zero = some z := by simpa [hq] using hi
    have hzv : (zeroValue t).run P w = .ok z w := by simp [zeroValue, typeInfo, hq, hz]
    unfold Oper.wp execOp
    simp only [ho, Sem.run_bind, Instr.alloc, hzv, Result.andThen_ok]
    simp [newVar, Oper.upon]
    exact h
variable {B : Nat} {w0 : World} {F : HP} {b : Nat} {f : Int → Option Int} {k : Int} {mt kt et : TypeId}
theorem Sat.run_entry (h : Sat B w0 w (mp b f • F)) (hm : P.underlying mt = some (.map kt et)) (hk : P.underlying kt = some (.int .i64)) {v0 : Int} (hf : f k = some v0) (v : Int) :
    ∃ (w1 w2 : World) (st : Int), (Instr.mapEntry mt (.map (some b)) (.int .i64 k)).run P w = .ok (.tuple #[.int .i64 v0, .int .i64 st]) w1 ∧
      (Instr.entryStore mt (.map (some b)) (.int .i64 st) (.int .i64 v)).run P w1 = .ok () w2 ∧ Sat B w0 w2 (mp b (upd f k (some v)) • F) := by
  obtain ⟨w1, st, hr, hS, hnext⟩ := h.run_mapEntry hm hk hf
  obtain ⟨es, clk, hs, he, hb⟩ := hS.mp_open
  obtain ⟨w2, hr2, hS2⟩ := hnext w1 B w0 F v (by rw [hb.heap]; exact hb)
  exact ⟨w1, w2, st, hr, hr2, hS2⟩
end

section
variable {B : Nat} {w0 w w' : World} {F : HP} {p : Nat} {L : List Ent}
set_option maxRecDepth 8000 in
set_option maxHeartbeats 2000000 in
theorem pileSwap_any (h : Sat B w0 w (pile p L • F)) {i k : Nat} (hi : i < L.length) (hk : k < L.length) : Calls Tryz.prog 106 #[.pointer (some ⟨p, 0, none⟩), .int .i64 i, .int .i64 k] w fun e w' =>
    e = .returned (.tuple #[]) ∧ Sat B w0 w' (pile p (Hp.swap L i k) • F) := by
  obtain ⟨g, cap, cur, mb, f, hx, h1, h2, h3, h4, hS⟩ := h.pile_row (by omega)
  have hmx : L.length ≤ 9223372036854775807 := by unfold maxLen at h2; omega
  have hS' := hS.drew
  clear hS h
  have hsw : Hp.swap L i k = (L.set i (Hp.g L k)).set k (Hp.g L i) := rfl
  have hk' : k < (L.set i (Hp.g L k)).length := by simpa using hk
  have t1 := take_splice_set (L := L) (cur := cur) Ent.enc_length (by decide) h4 rfl (by omega) hi (Hp.g L k)
  have z1 : (splice cur (i * 2) (Hp.g L k).enc).size = cur.size := splice_size (by rw [Ent.enc_length]; omega)
  have t2 := take_splice_set (L := L.set i (Hp.g L k)) (n := L.length) (cur := splice cur (i * 2) (Hp.g L k).enc) Ent.enc_length (by decide) t1 (by simp) (by rw [z1]; omega) hk (Hp.g L i)
  have z2 : (splice (splice cur (i * 2) (Hp.g L k).enc) (k * 2) (Hp.g L i).enc).size = cur.size := by rw [splice_size (by rw [Ent.enc_length, z1]; omega), z1]
  rw [← hsw] at t2
  have hx2 := hx.swap hi hk
  have gi : (Hp.g (Hp.swap L i k) i).id = (Hp.g L k).id := by
    rw [Hp.g_swap _ _ _ _ hi hk]; split
    · rename_i e; rw [← e]
    · rw [if_pos rfl]
  have gk : (Hp.g (Hp.swap L i k) k).id = (Hp.g L i).id := by rw [Hp.g_swap _ _ _ _ hi hk, if_pos rfl]
  have hl2 : (Hp.swap L i k).length = L.length := Hp.swap_length _ _ _
  have f1 := (hx _ _).2 ⟨k, rfl, hk, rfl⟩
  have f2 : upd f (Hp.g L k).id (some (i : Int)) (Hp.g L i).id = some (i : Int) := by
    by_cases e : (Hp.g L i).id = (Hp.g L k).id
    · rw [e, upd_same]
    · rw [upd_other _ _ e]; exact (hx _ _).2 ⟨i, rfl, hi, rfl⟩
  have HX2 := Lib.hid hx2
  have HL2 := Lib.hid hl2
  have GI := Lib.hid gi
  have GK := Lib.hid gk
  have F1 := Lib.hid f1
  have F2 := Lib.hid f2
  have T2 := Lib.hid t2
  have Z1 := Lib.hid z1
  have Z2 := Lib.hid z2
  clear hx2 hl2 gi gk f1 f2 t1 t2 z1 z2 hsw
  go_enter Tryz.func106, Tryz.ntmps106
  go_wp2_with fail
  refine wp_region_ord [(0, .pure), (1, .pure), (2, .pure), (3, .quiet), (4, .pure), (5, .pure), (6, .pure), (7, .pure), (8, .quiet), (9, .pure), (10, .pure), (11, .pure), (12, .pure), (13, .quiet), (14, .pure), (15, .pure), (16, .quiet), (17, .pure), (18, .pure), (19, .pure), (20, .quiet), (21, .pure), (22, .pure), (23, .quiet), (24, .pure), (25, .seals), (26, .pure), (27, .seals)] (by kernel_rfl) (by kernel_rfl)
    (fun w' => Sat B w0 w' (blk p (.cells #[.slice (some ⟨g, 0, none⟩) L.length cap, .map (some mb)] 106) • blk g (.cells cur 113 (0, 0)) • mp mb f • F)) hS' ?_
  iterate 3 (refine ord_pure rfl rfl rfl (fun K' hK => ?_); go_big_quiet_op; refine hK _ ?_; clear hK K')
  refine ord_load (t := 104) rfl rfl rfl (p := .pointer (some ⟨p, 0, none⟩)) (v := .slice (some ⟨g, 0, none⟩) L.length cap) rfl (fun w' hC => run_loadAt_one hC.heap Tryz.underlying104 rfl rfl) (fun K' hK => ?_)
  go_simp
  refine hK _ ?_
  clear hK K'
  iterate 4 (refine ord_pure rfl rfl rfl (fun K' hK => ?_); go_big_quiet_op; refine hK _ ?_; clear hK K')
  refine ord_load (t := 104) rfl rfl rfl (p := .pointer (some ⟨p, 0, none⟩)) (v := .slice (some ⟨g, 0, none⟩) L.length cap) rfl (fun w' hC => run_loadAt_one hC.heap Tryz.underlying104 rfl rfl) (fun K' hK => ?_)
  go_simp
  refine hK _ ?_
  clear hK K'
  iterate 4 (refine ord_pure rfl rfl rfl (fun K' hK => ?_); go_big_quiet_op; refine hK _ ?_; clear hK K')
  refine ord_load (t := 104) rfl rfl rfl (p := .pointer (some ⟨p, 0, none⟩)) (v := .slice (some ⟨g, 0, none⟩) L.length cap) rfl (fun w' hC => run_loadAt_one hC.heap Tryz.underlying104 rfl rfl) (fun K' hK => ?_)
  go_simp
  refine hK _ ?_
  clear hK K'
  iterate 2 (refine ord_pure rfl rfl rfl (fun K' hK => ?_); go_big_quiet_op; refine hK _ ?_; clear hK K')
  refine ord_load (t := 113) rfl rfl rfl (p := .pointer (some ⟨g, k * 2, none⟩)) (v := .agg (Hp.g L k).enc.toArray) rfl (fun w' hC => ent_load hC.pull2.heap h4 hk) (fun K' hK => ?_)
  go_simp
  refine hK _ ?_
  clear hK K'
  iterate 3 (refine ord_pure rfl rfl rfl (fun K' hK => ?_); go_big_quiet_op; refine hK _ ?_; clear hK K')
  refine ord_load (t := 104) rfl rfl rfl (p := .pointer (some ⟨p, 0, none⟩)) (v := .slice (some ⟨g, 0, none⟩) L.length cap) rfl (fun w' hC => run_loadAt_one hC.heap Tryz.underlying104 rfl rfl) (fun K' hK => ?_)
  go_simp
  refine hK _ ?_
  clear hK K'
  iterate 2 (refine ord_pure rfl rfl rfl (fun K' hK => ?_); go_big_quiet_op; refine hK _ ?_; clear hK K')
  refine ord_load (t := 113) rfl rfl rfl (p := .pointer (some ⟨g, i * 2, none⟩)) (v := .agg (Hp.g L i).enc.toArray) rfl (fun w' hC => ent_load hC.pull2.heap h4 hi) (fun K' hK => ?_)
  go_simp
  refine hK _ ?_
  clear hK K'
  iterate 1 (refine ord_pure rfl rfl rfl (fun K' hK => ?_); go_big_quiet_op; refine hK _ ?_; clear hK K')
  have hS2 := (hS'.pull2.setRow (cs := splice cur (i * 2) (Hp.g L k).enc)).pull2
  refine ord_store rfl rfl rfl rfl (p := .pointer (some ⟨g, i * 2, none⟩)) (v := .agg (Hp.g L k).enc.toArray) rfl rfl (run_storeAt_row hS'.pull2.heap (by simp only [Value.cells, List.size_toArray, Ent.enc_length]; kernel_rfl) (by simp only [Value.cells, List.size_toArray, Ent.enc_length]; omega) (by simpa [Value.cells] using Ent.enc_one _)) (fun _ => True) trivial ?_
  simp only [Value.cells]
  iterate 1 (refine ord_pure rfl rfl rfl (fun K' hK => ?_); go_big_quiet_op; refine hK _ ?_; clear hK K')
  have hS3 := (hS2.pull2.setRow (cs := splice (splice cur (i * 2) (Hp.g L k).enc) (k * 2) (Hp.g L i).enc)).pull2
  refine ord_store rfl rfl rfl rfl (p := .pointer (some ⟨g, k * 2, none⟩)) (v := .agg (Hp.g L i).enc.toArray) rfl rfl (run_storeAt_row hS2.pull2.heap (by simp only [Value.cells, List.size_toArray, Ent.enc_length]; kernel_rfl) (by simp only [Value.cells, List.size_toArray, Ent.enc_length]; rw [Z1.out]; omega) (by simpa [Value.cells] using Ent.enc_one _)) (fun _ => True) trivial ?_
  simp only [Value.cells]
  refine ord_nil ?_
  clear hS' hS2
  generalize splice (splice cur (i * 2) (Hp.g L k).enc) (k * 2) (Hp.g L i).enc = cur2 at *
  generalize w.drew.setRow g (splice cur (i * 2) (Hp.g L k).enc) = W1 at *
  generalize W1.setRow g cur2 = W2 at *
  have hS4 := hS3.drew
  clear hS3
  go_wp2_with fail
  refine wp_region_ord [(0, .pure), (1, .pure), (2, .pure), (3, .quiet), (4, .pure), (5, .pure), (6, .pure), (7, .quiet), (8, .pure), (9, .pure), (10, .pure), (11, .quiet), (12, .pure), (13, .pure), (14, .pure), (15, .quiet), (16, .pure), (17, .pure), (18, .pure), (19, .quiet), (20, .pure), (21, .pure), (22, .pure), (23, .quiet), (24, .pure), (25, .pure), (26, .seals), (27, .pure), (28, .seals), (29, .seals), (30, .pure), (31, .seals)] (by kernel_rfl) (by kernel_rfl)
    (fun w' => Sat B w0 w' (blk p (.cells #[.slice (some ⟨g, 0, none⟩) L.length cap, .map (some mb)] 106) • blk g (.cells cur2 113 (0, 0)) • mp mb f • F)) hS4 ?_
  iterate 3 (refine ord_pure rfl rfl rfl (fun K' hK => ?_); go_big_quiet_op; refine hK _ ?_; clear hK K')
  refine ord_load (t := 103) rfl rfl rfl (p := .pointer (some ⟨p, 1, none⟩)) (v := .map (some mb)) rfl (fun w' hC => run_loadAt_one hC.heap Tryz.underlying103 rfl rfl) (fun K' hK => ?_)
  go_simp
  refine hK _ ?_
  clear hK K'
  iterate 3 (refine ord_pure rfl rfl rfl (fun K' hK => ?_); go_big_quiet_op; refine hK _ ?_; clear hK K')
  refine ord_load (t := 104) rfl rfl rfl (p := .pointer (some ⟨p, 0, none⟩)) (v := .slice (some ⟨g, 0, none⟩) L.length cap) rfl (fun w' hC => run_loadAt_one hC.heap Tryz.underlying104 rfl rfl) (fun K' hK => ?_)
  go_simp
  refine hK _ ?_
  clear hK K'
  iterate 3 (refine ord_pure rfl rfl rfl (fun K' hK => ?_); go_big_quiet_op; refine hK _ ?_; clear hK K')
  refine ord_load (t := 3) rfl rfl rfl (p := .pointer (some ⟨g, i * 2, none⟩)) (v := .int .i64 (Hp.g L k).id) rfl (fun w' hC => by rw [← GI.out]; exact run_loadAt_one hC.pull2.heap Tryz.underlying3 rfl (cur_at (L := Hp.swap L i k) Ent.enc_length T2.out (g_get (by rw [HL2.out]; omega)) 0 _ rfl)) (fun K' hK => ?_)
  go_simp
  refine hK _ ?_
  clear hK K'
  iterate 3 (refine ord_pure rfl rfl rfl (fun K' hK => ?_); go_big_quiet_op; refine hK _ ?_; clear hK K')
  refine ord_load (t := 103) rfl rfl rfl (p := .pointer (some ⟨p, 1, none⟩)) (v := .map (some mb)) rfl (fun w' hC => run_loadAt_one hC.heap Tryz.underlying103 rfl rfl) (fun K' hK => ?_)
  go_simp
  refine hK _ ?_
  clear hK K'
  iterate 3 (refine ord_pure rfl rfl rfl (fun K' hK => ?_); go_big_quiet_op; refine hK _ ?_; clear hK K')
  refine ord_load (t := 104) rfl rfl rfl (p := .pointer (some ⟨p, 0, none⟩)) (v := .slice (some ⟨g, 0, none⟩) L.length cap) rfl (fun w' hC => run_loadAt_one hC.heap Tryz.underlying104 rfl rfl) (fun K' hK => ?_)
  go_simp
  refine hK _ ?_
  clear hK K'
  iterate 3 (refine ord_pure rfl rfl rfl (fun K' hK => ?_); go_big_quiet_op; refine hK _ ?_; clear hK K')
  refine ord_load (t := 3) rfl rfl rfl (p := .pointer (some ⟨g, k * 2, none⟩)) (v := .int .i64 (Hp.g L i).id) rfl (fun w' hC => by rw [← GK.out]; exact run_loadAt_one hC.pull2.heap Tryz.underlying3 rfl (cur_at (L := Hp.swap L i k) Ent.enc_length T2.out (g_get (by rw [HL2.out]; omega)) 0 _ rfl)) (fun K' hK => ?_)
  go_simp
  refine hK _ ?_
  clear hK K'
  iterate 2 (refine ord_pure rfl rfl rfl (fun K' hK => ?_); go_big_quiet_op; refine hK _ ?_; clear hK K')
  obtain ⟨w1, w2, st1, r1, r2, hS5⟩ := Sat.run_entry (P := Tryz.prog) (mt := 103) (k := (Hp.g L k).id) hS4.pull3 Tryz.underlying103 Tryz.underlying3 F1.out (i : Int)
  obtain ⟨w3, w4, st2, r3, r4, hS6⟩ := Sat.run_entry (P := Tryz.prog) (mt := 103) (k := (Hp.g L i).id) hS5 Tryz.underlying103 Tryz.underlying3 F2.out (k : Int)
  clear hS4 hS5
  refine ord_seals rfl rfl (fun K' hK => wp_mapEntry_run rfl rfl rfl r1 (hK (fun _ => True) _ _ trivial ?_))
  clear hK K'
  go_simp
  iterate 1 (refine ord_pure rfl rfl rfl (fun K' hK => ?_); go_big_quiet_op; refine hK _ ?_; clear hK K')
  refine ord_seals rfl rfl (fun K' hK => wp_entryStore_run rfl rfl rfl rfl r2 (hK (fun _ => True) _ _ trivial ?_))
  clear hK K'
  go_simp
  refine ord_seals rfl rfl (fun K' hK => wp_mapEntry_run rfl rfl rfl r3 (hK (fun _ => True) _ _ trivial ?_))
  clear hK K'
  go_simp
  iterate 1 (refine ord_pure rfl rfl rfl (fun K' hK => ?_); go_big_quiet_op; refine hK _ ?_; clear hK K')
  refine ord_seals rfl rfl (fun K' hK => wp_entryStore_run rfl rfl rfl rfl r4 (hK (fun _ => True) _ _ trivial ?_))
  clear hK K'
  go_simp
  refine ord_nil ?_
  go_end0
  refine ⟨rfl, Sat.pile_row_shut (g := g) (mb := mb) (cur := cur2) HX2.out (by rw [HL2.out]; exact h1) h2 (by rw [Z2.out]; exact h3) (by rw [HL2.out]; exact T2.out) ?_⟩
  rw [HL2.out]
  exact hS6.pull3.pull3
end
end Go.Proofs.YtepaanpdjadakaaGreatDoor

/-! The pile's Push and Pop. -/
namespace Go.Proofs.YtepaanpdjadakaaGreatDoor
open Go Go.RowKit

theorem entry_zero : (Tryz.prog.info? 113).map (fun i => (i.zero, i.size, i.bytes)) = some (some (.agg (Ent.enc ⟨0, 0⟩).toArray), 2, 16) := by kernel_rfl
theorem entry_zero2 : (Tryz.prog.info? 113).map (fun i => (i.zero, i.size)) = some (some (.agg (Ent.enc ⟨0, 0⟩).toArray), 2) := by kernel_rfl
theorem entry_zero1 : (Tryz.prog.info? 113).map (·.zero) = some (some (.agg (Ent.enc ⟨0, 0⟩).toArray)) := by kernel_rfl
theorem ent_store (x : Ent) (W : World) (z : Array Value) (hz : z.size = 2) : (Instr.storeAt 113 (.pointer (some ⟨W.heap.size, 0, none⟩)) (.agg x.enc.toArray)).run Tryz.prog (W.alloc (.cells z 113)) = .ok () (W.alloc (.cells x.enc.toArray 113)) :=
  run_storeAt_new (v := .agg x.enc.toArray) (by simp only [Value.cells, List.size_toArray, x.enc_length]; kernel_rfl) (by simp only [Value.cells, List.size_toArray, x.enc_length]; exact hz) (by simpa [Value.cells] using x.enc_one)
theorem assert_entry (v : Value) (w : World) : (Instr.typeAssert (.iface 113 v) 20 113 true).run Tryz.prog w = .ok (.tuple #[v, .bool true]) w := by kernel_rfl
section
variable {B : Nat} {w0 w w' : World} {F : HP} {p : Nat} {L : List Ent}
set_option maxRecDepth 8000 in
set_option maxHeartbeats 2000000 in
theorem pilePush_any (h : Sat B w0 w (pile p L • F)) (x : Ent) (hl : L.length ≤ 4096) (hn : ∀ i, i < L.length → (Hp.g L i).id ≠ x.id) : Calls Tryz.prog 105 #[.pointer (some ⟨p, 0, none⟩), .iface 113 (.agg x.enc.toArray)] w fun e w' =>
    e = .returned (.tuple #[]) ∧ Sat B w0 w' (pile p (L ++ [x]) • F) := by
  obtain ⟨v, mb, f, hx, hS⟩ := h.pile_open
  have hfx : f x.id = none := by
    cases hf : f x.id with
    | none => rfl
    | some n => obtain ⟨i, _, hi, e⟩ := (hx _ _).1 hf; exact absurd e (hn i hi)
  obtain ⟨A, c, rfl⟩ := hS.pull2.arr_form
  have HX := Lib.hid (hx.push hfx)
  clear h hfx hn hx
  have hx0 : (Hp.g [x] 0).id = x.id := rfl
  have hst := ent_store x
  have hta := assert_entry
  have hS0 := (hS.alloc (.cells x.enc.toArray 113)).drew
  clear hS hx0
  go_enter Tryz.func105, Tryz.ntmps105
  go_wp2_with (refine wpList_store_run rfl rfl rfl rfl (hst _ _ rfl) ?_)
  try go_frame
  refine wp_region_ord [(0, .pure), (1, .pure), (2, .pure), (3, .quiet), (4, .pure), (5, .quiet), (6, .pure), (7, .pure), (8, .pure), (9, .quiet), (10, .pure), (11, .seals)] (by kernel_rfl) (by kernel_rfl)
    (fun w' => Sat B w0 w' (blk w.heap.size (.cells x.enc.toArray 113) • blk p (.cells #[.slice A L.length c, .map (some mb)] 106) • arr 113 2 (.slice A L.length c) L.length (L.flatMap Ent.enc) • mp mb f • F)) hS0 ?_
  iterate 3 (refine ord_pure rfl rfl rfl (fun K' hK => ?_); go_big_quiet_op; refine hK _ ?_; clear hK K')
  refine ord_load (t := 103) rfl rfl rfl (p := .pointer (some ⟨p, 1, none⟩)) (v := .map (some mb)) rfl (fun w' hC => run_loadAt_one hC.pull2.heap Tryz.underlying103 rfl rfl) (fun K' hK => ?_)
  go_simp
  refine hK _ ?_
  clear hK K'
  iterate 1 (refine ord_pure rfl rfl rfl (fun K' hK => ?_); go_big_quiet_op; refine hK _ ?_; clear hK K')
  refine ord_load (t := 3) rfl rfl rfl (p := .pointer (some ⟨w.heap.size, 0, none⟩)) (v := .int .i64 x.id) rfl (fun w' hC => run_loadAt_one hC.heap Tryz.underlying3 rfl rfl) (fun K' hK => ?_)
  go_simp
  refine hK _ ?_
  clear hK K'
  iterate 3 (refine ord_pure rfl rfl rfl (fun K' hK => ?_); go_big_quiet_op; refine hK _ ?_; clear hK K')
  refine ord_load (t := 104) rfl rfl rfl (p := .pointer (some ⟨p, 0, none⟩)) (v := .slice A L.length c) rfl (fun w' hC => run_loadAt_one hC.pull2.heap Tryz.underlying104 rfl rfl) (fun K' hK => ?_)
  go_simp
  refine hK _ ?_
  clear hK K'
  iterate 1 (refine ord_pure rfl rfl rfl (fun K' hK => ?_); go_big_quiet_op; refine hK _ ?_; clear hK K')
  obtain ⟨w2, r2, hS2⟩ := Sat.run_mapUpdate (P := Tryz.prog) (mt := 103) (k := x.id) (v := (L.length : Int)) hS0.pull4 Tryz.underlying103 Tryz.underlying3
  refine ord_seals rfl rfl (fun K' hK => wp_mapUpdate_run rfl rfl rfl rfl r2 (hK (fun _ => True) _ _ trivial ?_))
  clear hK K'
  go_simp
  refine ord_nil ?_
  clear hS0 r2
  generalize hf' : upd f x.id (some (L.length : Int)) = f' at *
  have hS3 := hS2.drew
  clear hS2
  go_wp2_with fail
  try go_frame
  refine wp_region_ord [(0, .pure), (1, .pure), (2, .pure), (3, .pure), (4, .quiet), (5, .quiet), (6, .acts), (7, .seals), (8, .pure), (9, .pure), (10, .seals)] (by kernel_rfl) (by kernel_rfl)
    (fun w' => Sat B w0 w' (mp mb f' • blk w.heap.size (.cells x.enc.toArray 113) • blk p (.cells #[.slice A L.length c, .map (some mb)] 106) • arr 113 2 (.slice A L.length c) L.length (L.flatMap Ent.enc) • F)) hS3 ?_
  iterate 4 (refine ord_pure rfl rfl rfl (fun K' hK => ?_); go_big_quiet_op; refine hK _ ?_; clear hK K')
  refine ord_load (t := 104) rfl rfl rfl (p := .pointer (some ⟨p, 0, none⟩)) (v := .slice A L.length c) rfl (fun w' hC => run_loadAt_one hC.pull3.heap Tryz.underlying104 rfl rfl) (fun K' hK => ?_)
  go_simp
  refine hK _ ?_
  clear hK K'
  refine ord_load (t := 113) rfl rfl rfl (p := .pointer (some ⟨w.heap.size, 0, none⟩)) (v := .agg x.enc.toArray) rfl (fun w' hC => run_loadAt_row hC.pull2.heap Tryz.underlying113 rfl (by rw [Ent.enc_length]; kernel_rfl) (fun j u hu => by simpa using hu)) (fun K' hK => ?_)
  go_simp
  refine hK _ ?_
  clear hK K'
  have hS4 := hS3.alloc_ (.cells x.enc.toArray 113)
  refine ord_acts rfl rfl (fun K' hK => ?_)
  refine wp_buildSlice_one (v := .agg x.enc.toArray) rfl rfl Tryz.underlying104 entry_zero2 (by simp [Value.cells, Ent.enc_length]) (by decide) (by decide) ?_
  refine hK _ _ hS4 ?_
  clear hK K'
  go_simp
  obtain ⟨v5, w5, hrun, hS5⟩ := hS4.pull4.append (m := 1) (news := x.enc) (t := 104) (ty := 104) (P := Tryz.prog) (x := .slice (some ⟨w2.drew.heap.size, 0, none⟩) 1 1) Tryz.underlying104 entry_zero (by simp [Value.cells, Ent.enc_length]) (by decide) reads_new (by rw [Ent.enc_length]) (Ent.enc_one _) (by unfold maxLen; omega) (by omega)
  refine ord_seals rfl rfl (fun K' hK => wp_append_run _ _ _ rfl rfl rfl hrun (hK (fun _ => True) _ _ trivial ?_))
  clear hK K'
  go_simp
  iterate 2 (refine ord_pure rfl rfl rfl (fun K' hK => ?_); go_big_quiet_op; refine hK _ ?_; clear hK K')
  obtain ⟨A5, c5, rfl⟩ := hS5.arr_form
  have hS6 := hS5.pull4.setRow (cs := #[.slice A5 (L.length + 1) c5, .map (some mb)])
  have hs6 := run_storeAt_row (P := Tryz.prog) (o := 0) (ty := 104) (v := .slice A5 (L.length + 1) c5) hS5.pull4.heap (by kernel_rfl) (by simp [Value.cells]) (by simp [Value.cells, Value.oneCell'])
  rw [show splice #[.slice A L.length c, .map (some mb)] 0 (Value.slice A5 (L.length + 1) c5).cells.toList = #[.slice A5 (L.length + 1) c5, .map (some mb)] from rfl] at hs6
  refine ord_store rfl rfl rfl rfl (p := .pointer (some ⟨p, 0, none⟩)) (v := .slice A5 (L.length + 1) c5) rfl rfl hs6 (fun _ => True) trivial ?_
  refine ord_nil ?_
  go_end0
  refine ⟨rfl, Sat.pile_shut (v := .slice A5 (L.length + 1) c5) (mb := mb) HX.out ?_⟩
  rw [List.length_append, List.length_singleton, List.flatMap_append, List.flatMap_singleton]
  have hS7 := hS6.to (show _ = blk w.heap.size (.cells x.enc.toArray 113) • blk p (.cells #[.slice A5 (L.length + 1) c5, .map (some mb)] 106) • arr 113 2 (.slice A5 (L.length + 1) c5) (L.length + 1) (L.flatMap Ent.enc ++ x.enc) • mp mb f' • F by ac_rfl)
  exact hS7.drop
set_option maxRecDepth 8000 in
set_option maxHeartbeats 2000000 in
theorem pilePop_any (h : Sat B w0 w (pile p L • F)) {m : Nat} (hm : L.length = m + 1) : Calls Tryz.prog 104 #[.pointer (some ⟨p, 0, none⟩)] w fun e w' =>
    e = .returned (.iface 113 (.agg (Hp.g L m).enc.toArray)) ∧ Sat B w0 w' (pile p L.dropLast • F) := by
  obtain ⟨g, cap, cur, mb, f, hx, h1, h2, h3, h4, hS⟩ := h.pile_row (by omega)
  have hx2 := hx.pop (by omega)
  rw [hm, Nat.add_sub_cancel] at hx2
  have h4' : cur.toList.take (m * 2) = L.dropLast.flatMap Ent.enc := by
    have e1 : cur.toList.take (m * 2) = (cur.toList.take (L.length * 2)).take (m * 2) := by rw [List.take_take, Nat.min_eq_left (by omega)]
    rw [e1, h4]
    conv => lhs; rw [← List.dropLast_concat_getLast (l := L) (by intro e; simp [e] at hm), List.flatMap_append]
    rw [List.take_append_of_le_length (by rw [flat_length Ent.enc_length, List.length_dropLast]; omega)]
    exact List.take_of_length_le (by rw [flat_length Ent.enc_length, List.length_dropLast]; omega)
  have hld : L.dropLast.length = m := by rw [List.length_dropLast]; omega
  have hmx : (m : Int) + 1 ≤ 9223372036854775807 := by unfold maxLen at h2; omega
  have hml : m < L.length := by omega
  have hmc : m + 1 ≤ cap := by omega
  have hmc2 : m ≤ cap := by omega
  have hS0 := hS.drew
  rw [hm] at hS0
  have HX2 := Lib.hid hx2
  have HLD := Lib.hid hld
  have H4 := Lib.hid h4
  have H4' := Lib.hid h4'
  have HML := Lib.hid hml
  have H3 := Lib.hid h3
  have hst := ent_store (Hp.g L m)
  clear h hS hx2 hld h4 h4' hm hx hml h3 h1
  generalize hXM : Hp.g L m = X at *
  have HXM := Lib.hid hXM
  clear hXM
  go_enter Tryz.func104, Tryz.ntmps104
  go_wp2_with fail
  refine wp_region_ord [(0, .pure), (1, .pure), (2, .pure), (3, .quiet), (4, .pure), (5, .pure), (6, .pure), (7, .quiet), (8, .pure), (9, .pure), (10, .pure), (11, .quiet), (12, .acts), (13, .seals)] (by kernel_rfl) (by kernel_rfl)
    (fun w' => Sat B w0 w' (blk p (.cells #[.slice (some ⟨g, 0, none⟩) (m + 1) cap, .map (some mb)] 106) • blk g (.cells cur 113 (0, 0)) • mp mb f • F)) hS0 ?_
  iterate 3 (refine ord_pure rfl rfl rfl (fun K' hK => ?_); go_big_quiet_op; refine hK _ ?_; clear hK K')
  refine ord_load (t := 104) rfl rfl rfl (p := .pointer (some ⟨p, 0, none⟩)) (v := .slice (some ⟨g, 0, none⟩) (m + 1) cap) rfl (fun w' hC => run_loadAt_one hC.heap Tryz.underlying104 rfl rfl) (fun K' hK => ?_)
  go_simp
  refine hK _ ?_
  clear hK K'
  iterate 3 (refine ord_pure rfl rfl rfl (fun K' hK => ?_); go_big_quiet_op; refine hK _ ?_; clear hK K')
  refine ord_load (t := 104) rfl rfl rfl (p := .pointer (some ⟨p, 0, none⟩)) (v := .slice (some ⟨g, 0, none⟩) (m + 1) cap) rfl (fun w' hC => run_loadAt_one hC.heap Tryz.underlying104 rfl rfl) (fun K' hK => ?_)
  go_simp
  refine hK _ ?_
  clear hK K'
  iterate 3 (refine ord_pure rfl rfl rfl (fun K' hK => ?_); go_big_quiet_op; refine hK _ ?_; clear hK K')
  refine ord_load (t := 113) rfl rfl rfl (p := .pointer (some ⟨g, m * 2, none⟩)) (v := .agg X.enc.toArray) rfl (fun w' hC => by rw [← HXM.out]; exact ent_load hC.pull2.heap H4.out HML.out) (fun K' hK => ?_)
  go_simp
  refine hK _ ?_
  clear hK K'
  have hS1 := hS0.alloc (.cells X.enc.toArray 113)
  refine ord_acts rfl rfl (fun K' hK => wp_alloc_run rfl entry_zero1 (hK _ _ (hS0.alloc_ _) ?_))
  clear hK K'
  go_simp
  refine ord_store rfl rfl rfl rfl (p := .pointer (some ⟨w.drew.heap.size, 0, none⟩)) (v := .agg X.enc.toArray) rfl rfl (hst _ _ rfl) (fun _ => True) trivial ?_
  refine ord_nil ?_
  clear hS0 hst
  have hS2 := hS1.drew
  clear hS1
  go_wp2_with fail
  try go_frame
  refine wp_region_ord [(0, .pure), (1, .pure), (2, .pure), (3, .pure), (4, .quiet), (5, .pure), (6, .pure), (7, .pure), (8, .quiet), (9, .pure), (10, .pure), (11, .pure), (12, .pure), (13, .pure), (14, .seals)] (by kernel_rfl) (by kernel_rfl)
    (fun w' => Sat B w0 w' (blk w.drew.heap.size (.cells X.enc.toArray 113) • blk p (.cells #[.slice (some ⟨g, 0, none⟩) (m + 1) cap, .map (some mb)] 106) • blk g (.cells cur 113 (0, 0)) • mp mb f • F)) hS2 ?_
  iterate 4 (refine ord_pure rfl rfl rfl (fun K' hK => ?_); go_big_quiet_op; refine hK _ ?_; clear hK K')
  refine ord_load (t := 104) rfl rfl rfl (p := .pointer (some ⟨p, 0, none⟩)) (v := .slice (some ⟨g, 0, none⟩) (m + 1) cap) rfl (fun w' hC => run_loadAt_one hC.pull2.heap Tryz.underlying104 rfl rfl) (fun K' hK => ?_)
  go_simp
  refine hK _ ?_
  clear hK K'
  iterate 3 (refine ord_pure rfl rfl rfl (fun K' hK => ?_); go_big_quiet_op; refine hK _ ?_; clear hK K')
  refine ord_load (t := 104) rfl rfl rfl (p := .pointer (some ⟨p, 0, none⟩)) (v := .slice (some ⟨g, 0, none⟩) (m + 1) cap) rfl (fun w' hC => run_loadAt_one hC.pull2.heap Tryz.underlying104 rfl rfl) (fun K' hK => ?_)
  go_simp
  refine hK _ ?_
  clear hK K'
  iterate 5 (refine ord_pure rfl rfl rfl (fun K' hK => ?_); go_big_quiet_op; refine hK _ ?_; clear hK K')
  have hS3 := (hS2.pull2.setRow (cs := #[.slice (some ⟨g, 0, none⟩) m cap, .map (some mb)])).pull2
  have hs3 := run_storeAt_row (P := Tryz.prog) (o := 0) (ty := 104) (v := .slice (some ⟨g, 0, none⟩) m cap) hS2.pull2.heap (by kernel_rfl) (by simp [Value.cells]) (by simp [Value.cells, Value.oneCell'])
  rw [show splice #[.slice (some ⟨g, 0, none⟩) (m + 1) cap, .map (some mb)] 0 (Value.slice (some ⟨g, 0, none⟩) m cap).cells.toList = #[.slice (some ⟨g, 0, none⟩) m cap, .map (some mb)] from rfl] at hs3
  refine ord_store rfl rfl rfl rfl (p := .pointer (some ⟨p, 0, none⟩)) (v := .slice (some ⟨g, 0, none⟩) m cap) rfl rfl hs3 (fun _ => True) trivial ?_
  refine ord_nil ?_
  clear hS2 hs3
  have hS4 := hS3.drew
  clear hS3
  go_wp2_with fail
  try go_frame
  refine wp_region_ord [(0, .pure), (1, .pure), (2, .pure), (3, .quiet), (4, .pure), (5, .quiet), (6, .seals)] (by kernel_rfl) (by kernel_rfl)
    (fun w' => Sat B w0 w' (blk w.drew.heap.size (.cells X.enc.toArray 113) • blk p (.cells #[.slice (some ⟨g, 0, none⟩) (m) cap, .map (some mb)] 106) • blk g (.cells cur 113 (0, 0)) • mp mb f • F)) hS4 ?_
  iterate 3 (refine ord_pure rfl rfl rfl (fun K' hK => ?_); go_big_quiet_op; refine hK _ ?_; clear hK K')
  refine ord_load (t := 103) rfl rfl rfl (p := .pointer (some ⟨p, 1, none⟩)) (v := .map (some mb)) rfl (fun w' hC => run_loadAt_one hC.pull2.heap Tryz.underlying103 rfl rfl) (fun K' hK => ?_)
  go_simp
  refine hK _ ?_
  clear hK K'
  iterate 1 (refine ord_pure rfl rfl rfl (fun K' hK => ?_); go_big_quiet_op; refine hK _ ?_; clear hK K')
  refine ord_load (t := 3) rfl rfl rfl (p := .pointer (some ⟨w.drew.heap.size, 0, none⟩)) (v := .int .i64 X.id) rfl (fun w' hC => run_loadAt_one hC.heap Tryz.underlying3 rfl rfl) (fun K' hK => ?_)
  go_simp
  refine hK _ ?_
  clear hK K'
  obtain ⟨w2, r2, hS5⟩ := Sat.run_delete (P := Tryz.prog) (mt := 103) (ty := 0) (k := X.id) hS4.pull4 Tryz.underlying103 Tryz.underlying3
  refine ord_seals rfl rfl (fun K' hK => wp_delete_run rfl rfl rfl r2 (hK (fun _ => True) _ _ trivial ?_))
  clear hK K'
  go_simp
  refine ord_nil ?_
  clear hS4 r2
  have hl5 : (Instr.loadAt 113 (.pointer (some ⟨w.drew.heap.size, 0, none⟩))).run Tryz.prog w2 = .ok (.agg X.enc.toArray) w2 :=
    run_loadAt_row hS5.pull2.heap Tryz.underlying113 rfl (by rw [Ent.enc_length]; kernel_rfl) (fun j u hu => by simpa using hu)
  go_wp2_with (refine wpList_load_run (t := 113) rfl rfl rfl hl5 ?_)
  go_ret

  refine ⟨rfl, Sat.pile_row_shut (g := g) (mb := mb) (cap := cap) (cur := cur) HX2.out (by rw [HLD.out]; exact hmc2) h2 H3.out (by rw [HLD.out]; exact H4'.out) ?_⟩
  rw [HLD.out]
  have hS7 := hS5.to (show _ = blk w.drew.heap.size (.cells X.enc.toArray 113) • blk p (.cells #[.slice (some ⟨g, 0, none⟩) m cap, .map (some mb)] 106) • blk g (.cells cur 113 (0, 0)) • mp mb (upd f X.id none) • F by ac_rfl)
  exact hS7.drop
end
end Go.Proofs.YtepaanpdjadakaaGreatDoor

/-! container/heap over the pile: up. -/
namespace Go.Proofs.YtepaanpdjadakaaGreatDoor
open Go Go.RowKit

theorem m_Len (a : Addr) (w : World) : (method 296 102 (.pointer (some a)) "Len").run Tryz.prog w = .ok (79, .pointer (some a)) w := by kernel_rfl
theorem m_Less (a : Addr) (w : World) : (method 296 102 (.pointer (some a)) "Less").run Tryz.prog w = .ok (103, .pointer (some a)) w := by kernel_rfl
theorem m_Swap (a : Addr) (w : World) : (method 296 102 (.pointer (some a)) "Swap").run Tryz.prog w = .ok (106, .pointer (some a)) w := by kernel_rfl
theorem m_Push (a : Addr) (w : World) : (method 296 102 (.pointer (some a)) "Push").run Tryz.prog w = .ok (105, .pointer (some a)) w := by kernel_rfl
theorem m_Pop (a : Addr) (w : World) : (method 296 102 (.pointer (some a)) "Pop").run Tryz.prog w = .ok (104, .pointer (some a)) w := by kernel_rfl

theorem up_fuel : ∀ (f g : Nat) (l : List Ent) (j : Nat), j ≤ f → j ≤ g → Hp.up f l j = Hp.up g l j := by
  intro f
  induction f with
  | zero =>
    intro g l j hf hg
    obtain rfl : j = 0 := by omega
    cases g <;> simp [Hp.up]
  | succ f ih =>
    intro g l j hf hg
    cases g with
    | zero =>
      obtain rfl : j = 0 := by omega
      simp [Hp.up]
    | succ g =>
      simp only [Hp.up]
      by_cases h0 : j = 0
      · rw [if_pos h0, if_pos h0]
      · rw [if_neg h0, if_neg h0, ih g _ _ (by unfold Hp.par; omega) (by unfold Hp.par; omega)]
/-- One more round of up. -/
theorem up_zero {f : Nat} {l : List Ent} : Hp.up f l 0 = l := by cases f <;> simp [Hp.up]
theorem up_stay {f : Nat} {l : List Ent} {m : Nat} (h : (Hp.g l (m + 1)).lt (Hp.g l (m / 2)) = false) : Hp.up f l (m + 1) = l := by
  cases f with
  | zero => rfl
  | succ f =>
    rw [Hp.up, if_neg (by omega)]
    have : Hp.par (m + 1) = m / 2 := rfl
    rw [this, h]; rfl
theorem up_go {l : List Ent} {m : Nat} (h : (Hp.g l (m + 1)).lt (Hp.g l (m / 2)) = true) (f : Nat) : Hp.up (f + 1) l (m + 1) = Hp.up f (Hp.swap l (m / 2) (m + 1)) (m / 2) := by
  rw [Hp.up, if_neg (by omega)]
  have : Hp.par (m + 1) = m / 2 := rfl
  rw [this, if_pos h]

section
variable {B : Nat} {w0 w w' : World} {F : HP} {p : Nat} {L : List Ent}
theorem Sat.pile_max (h : Sat B w0 w (pile p L • F)) : L.length ≤ 9223372036854775807 := by
  by_cases hl : 0 < L.length
  · obtain ⟨g, cap, cur, mb, f, hx, h1, h2, _⟩ := h.pile_row hl
    unfold maxLen at h2; omega
  · omega
set_option maxRecDepth 8000 in
set_option maxHeartbeats 2000000 in
theorem up_any (h : Sat B w0 w (pile p L • F)) {j : Nat} (hj : j < L.length) (f0 : Nat) (hf0 : j ≤ f0) : Calls Tryz.prog 73 #[.iface 102 (.pointer (some ⟨p, 0, none⟩)), .int .i64 j] w fun e w' =>
    e = .returned (.tuple #[]) ∧ Sat B w0 w' (pile p (Hp.up f0 L j) • F) := by
  have hR : ∀ f, j ≤ f → Hp.up f L j = Hp.up f0 L j := fun f hf => up_fuel f f0 L j hf hf0
  generalize Hp.up f0 L j = R at *
  have HR := Lib.hid hR
  have hmx := h.pile_max
  generalize hn : L.length = n at *
  have HN := Lib.hid hn
  clear hR hn hf0
  have mL := m_Less
  have mS := m_Swap
  go_enter Tryz.func73, Tryz.ntmps73
  go_wp2_with fail
  go_loopw [1] (fun t wr => ∃ (k : Nat) (M : List Ent), k < n ∧ t = .int .i64 k ∧ Sat B w0 wr (pile p M • F) ∧ Hid (M.length = n ∧ ∀ f, k ≤ f → Hp.up f M k = R)) (fun t _ => (intOf t).toNat)
  case atStart => exact ⟨j, L, hj, rfl, h, Lib.hid ⟨HN.out, HR.out⟩⟩
  case round =>
    clear h HR HN hj
    obtain ⟨k, M, hk, rfl, hS, HK⟩ := hrel
    rcases k with _ | m
    · go_wp2_with fail
      go_end0
      refine ⟨rfl, ?_⟩
      rw [← HK.out.2 0 (Nat.le_refl _), up_zero]
      exact hS
    · have hl1 : m + 1 < M.length := by have := HK.out.1; omega
      have hl2 : m / 2 < M.length := by have := HK.out.1; omega
      have c1 := pileLess_any hS hl1 hl2
      rw [show ((m + 1 : Nat) : Int) = (m : Int) + 1 by omega, show ((m / 2 : Nat) : Int) = (m : Int) / 2 by omega] at c1
      cases hlt : (Hp.g M (m + 1)).lt (Hp.g M (m / 2))
      · rw [hlt] at c1
        have HU := Lib.hid (fun f => up_stay (f := f) hlt)
        clear hlt hl1 hl2
        go_wp2_with fail
        refine c1.mono ?_
        rintro e w2 ⟨rfl, hb⟩
        have hS2 := hS.below_ hb
        clear hS hb c1
        go_wp2_with fail
        go_end0
        refine ⟨rfl, ?_⟩
        rw [← HK.out.2 _ (Nat.le_refl _), HU.out]
        exact hS2
      · rw [hlt] at c1
        have HU := Lib.hid (up_go hlt)
        have HL1 := Lib.hid hl1
        have HL2 := Lib.hid hl2
        clear hlt hl1 hl2
        go_wp2_with fail
        refine c1.mono ?_
        rintro e w2 ⟨rfl, hb⟩
        have c2 := pileSwap_any (hS.below_ hb) HL2.out HL1.out
        rw [show ((m + 1 : Nat) : Int) = (m : Int) + 1 by omega, show ((m / 2 : Nat) : Int) = (m : Int) / 2 by omega] at c2
        clear hS hb c1
        go_wp2_with fail
        refine c2.mono ?_
        rintro e w3 ⟨rfl, hS3⟩
        clear c2
        go_wp2_with fail
        go_roundw
        case rel =>
          refine ⟨m / 2, Hp.swap M (m / 2) (m + 1), by omega, by rw [show ((m / 2 : Nat) : Int) = (m : Int) / 2 by omega], hS3, Lib.hid ⟨by rw [Hp.swap_length]; exact HK.out.1, fun f hf => ?_⟩⟩
          rw [up_fuel f (f + m + 1) _ _ hf (by omega), ← HU.out]
          exact HK.out.2 _ (by omega)
        case measure => simp [intOf]; omega
end
end Go.Proofs.YtepaanpdjadakaaGreatDoor

/-! container/heap over the pile: down. -/
namespace Go.Proofs.YtepaanpdjadakaaGreatDoor
open Go Go.RowKit

theorem down_done {f : Nat} {l : List Ent} {i n : Nat} (h : n ≤ 2 * i + 1) : Hp.down f l i n = (l, i) := by
  cases f with
  | zero => rfl
  | succ f => rw [Hp.down, if_pos h]
theorem down_stay {f : Nat} {l : List Ent} {i n : Nat} (h : (Hp.g l (Hp.child l i n)).lt (Hp.g l i) = false) : Hp.down f l i n = (l, i) := by
  cases f with
  | zero => rfl
  | succ f =>
    rw [Hp.down]
    by_cases hn : n ≤ 2 * i + 1
    · rw [if_pos hn]
    · rw [if_neg hn, h]; rfl
theorem down_go {f : Nat} {l : List Ent} {i n : Nat} (hn : 2 * i + 1 < n) (h : (Hp.g l (Hp.child l i n)).lt (Hp.g l i) = true) : Hp.down (f + 1) l i n = Hp.down f (Hp.swap l i (Hp.child l i n)) (Hp.child l i n) n := by
  rw [Hp.down, if_neg (by omega), if_pos h]
theorem down_fuel : ∀ (f g : Nat) (l : List Ent) (i n : Nat), n ≤ i + f → n ≤ i + g → Hp.down f l i n = Hp.down g l i n := by
  intro f
  induction f with
  | zero =>
    intro g l i n hf hg
    rw [down_done (by omega), down_done (by omega)]
  | succ f ih =>
    intro g l i n hf hg
    cases g with
    | zero => rw [down_done (by omega), down_done (by omega)]
    | succ g =>
      by_cases hn : n ≤ 2 * i + 1
      · rw [down_done hn, down_done hn]
      · cases h : (Hp.g l (Hp.child l i n)).lt (Hp.g l i)
        · rw [down_stay h, down_stay h]
        · rw [down_go (by omega) h, down_go (by omega) h]
          have := (Hp.child_cases l i n (by omega)).2.2.2
          exact ih g _ _ n (by omega) (by omega)
theorem child_two {l : List Ent} {i n : Nat} (h : 2 * i + 2 < n) (hl : (Hp.g l (2 * i + 2)).lt (Hp.g l (2 * i + 1)) = true) : Hp.child l i n = 2 * i + 2 := by
  unfold Hp.child; rw [if_pos ⟨h, hl⟩]
theorem child_one {l : List Ent} {i n : Nat} (h : 2 * i + 2 < n → (Hp.g l (2 * i + 2)).lt (Hp.g l (2 * i + 1)) = false) : Hp.child l i n = 2 * i + 1 := by
  unfold Hp.child; rw [if_neg (fun h' => by rw [h h'.1] at h'; exact absurd h'.2 (by simp))]

section
variable {B : Nat} {w0 w w' : World} {F : HP} {p : Nat} {L : List Ent}
set_option maxRecDepth 8000 in
set_option maxHeartbeats 2000000 in
theorem down_any (h : Sat B w0 w (pile p L • F)) {i0 n : Nat} (hn : n ≤ L.length) (hL : L.length ≤ 1000000) (hi : i0 ≤ 1000000) (f0 : Nat) (hf0 : n ≤ i0 + f0) :
    Calls Tryz.prog 72 #[.iface 102 (.pointer (some ⟨p, 0, none⟩)), .int .i64 i0, .int .i64 n] w fun e w' =>
    e = .returned (.bool (decide (i0 < (Hp.down f0 L i0 n).2))) ∧ Sat B w0 w' (pile p (Hp.down f0 L i0 n).1 • F) := by
  have hR : ∀ f, n ≤ i0 + f → Hp.down f L i0 n = Hp.down f0 L i0 n := fun f hf => down_fuel f f0 L i0 n hf hf0
  generalize Hp.down f0 L i0 n = R at *
  have HR := Lib.hid hR
  have hn1 : n ≤ 1000000 := by omega
  generalize hlen : L.length = len at *
  have HN := Lib.hid hlen
  have Hnl := Lib.hid hn
  clear hR hlen hf0 hn hL
  have mL := m_Less
  have mS := m_Swap
  go_enter Tryz.func72, Tryz.ntmps72
  go_wp2_with fail
  go_loopw [7] (fun t wr => ∃ (k : Nat) (M : List Ent), k ≤ 1000000 ∧ t = .int .i64 k ∧ Sat B w0 wr (pile p M • F) ∧ Hid (M.length = len ∧ ∀ f, n ≤ k + f → Hp.down f M k n = R)) (fun t _ => n - (intOf t).toNat)
  case atStart => exact ⟨i0, L, hi, rfl, h, Lib.hid ⟨HN.out, HR.out⟩⟩
  case round =>
    clear h HR HN
    obtain ⟨k, M, hk, rfl, hS, HK⟩ := hrel
    by_cases h1 : n ≤ 2 * k + 1
    · have HD := Lib.hid (fun f => down_done (f := f) (l := M) h1)
      go_wp2_with fail
      go_ret
      have HF := (HD.out n).symm.trans (HK.out.2 n (by omega))
      rw [← HF]
      exact ⟨rfl, hS⟩
    · have h1' : 2 * k + 1 < n := by omega
      by_cases h2 : 2 * k + 2 < n
      · have c1 := pileLess_any hS (i := 2 * k + 2) (k := 2 * k + 1) (by have := HK.out.1; have := Hnl.out; omega) (by have := HK.out.1; have := Hnl.out; omega)
        rw [show ((2 * k + 2 : Nat) : Int) = 2 * (k : Int) + 1 + 1 by omega, show ((2 * k + 1 : Nat) : Int) = 2 * (k : Int) + 1 by omega] at c1
        cases hb1 : (Hp.g M (2 * k + 2)).lt (Hp.g M (2 * k + 1))
        · rw [hb1] at c1
          have HB := Lib.hid hb1
          clear hb1
          go_wp2_with fail
          refine c1.mono ?_
          rintro e w2 ⟨rfl, hb⟩
          replace hS := hS.below_ hb
          clear hb c1
          go_wp2_with fail
          have hch : Hp.child M k n = 2 * k + 1 := child_one (fun _ => HB.out)
          have c2 := pileLess_any hS (i := 2 * k + 1) (k := k) (by have := HK.out.1; have := Hnl.out; omega) (by have := HK.out.1; have := Hnl.out; omega)
          rw [show ((2 * k + 1 : Nat) : Int) = 2 * (k : Int) + 1 by omega] at c2
          cases hlt : (Hp.g M (2 * k + 1)).lt (Hp.g M k)
          · rw [hlt] at c2
            have HU := Lib.hid (fun f => down_stay (f := f) (l := M) (i := k) (n := n) (by rw [hch]; exact hlt))
            clear hlt hch
            refine c2.mono ?_
            rintro e w3 ⟨rfl, hb3⟩
            have hS3 := hS.below_ hb3
            clear hS hb3 c2
            go_wp2_with fail
            go_ret
            have HF := (HU.out n).symm.trans (HK.out.2 n (by omega))
            rw [← HF]
            exact ⟨rfl, hS3⟩
          · rw [hlt] at c2
            have HU := Lib.hid (fun f => down_go (f := f) (l := M) (i := k) (n := n) h1' (by rw [hch]; exact hlt))
            have HC := Lib.hid hch
            clear hlt hch
            refine c2.mono ?_
            rintro e w3 ⟨rfl, hb3⟩
            have c3 := pileSwap_any (hS.below_ hb3) (i := k) (k := 2 * k + 1) (by have := HK.out.1; have := Hnl.out; omega) (by have := HK.out.1; have := Hnl.out; omega)
            rw [show ((2 * k + 1 : Nat) : Int) = 2 * (k : Int) + 1 by omega] at c3
            clear hS hb3 c2
            go_wp2_with fail
            refine c3.mono ?_
            rintro e w4 ⟨rfl, hS4⟩
            clear c3
            go_wp2_with fail
            go_roundw
            case rel =>
              refine ⟨2 * k + 1, Hp.swap M k (2 * k + 1), by omega, by rw [show ((2 * k + 1 : Nat) : Int) = 2 * (k : Int) + 1 by omega], hS4, Lib.hid ⟨by rw [Hp.swap_length]; exact HK.out.1, fun f hf => ?_⟩⟩
              have h9 := HU.out (f + n)
              rw [HC.out] at h9
              rw [down_fuel f (f + n) _ _ _ hf (by omega), ← h9]
              exact HK.out.2 _ (by omega)
            case measure => simp [intOf]; omega
        · rw [hb1] at c1
          have HB := Lib.hid hb1
          clear hb1
          go_wp2_with fail
          refine c1.mono ?_
          rintro e w2 ⟨rfl, hb⟩
          replace hS := hS.below_ hb
          clear hb c1
          go_wp2_with fail
          have hch : Hp.child M k n = 2 * k + 2 := child_two h2 HB.out
          have c2 := pileLess_any hS (i := 2 * k + 2) (k := k) (by have := HK.out.1; have := Hnl.out; omega) (by have := HK.out.1; have := Hnl.out; omega)
          rw [show ((2 * k + 2 : Nat) : Int) = 2 * (k : Int) + 1 + 1 by omega] at c2
          cases hlt : (Hp.g M (2 * k + 2)).lt (Hp.g M k)
          · rw [hlt] at c2
            have HU := Lib.hid (fun f => down_stay (f := f) (l := M) (i := k) (n := n) (by rw [hch]; exact hlt))
            clear hlt hch
            refine c2.mono ?_
            rintro e w3 ⟨rfl, hb3⟩
            have hS3 := hS.below_ hb3
            clear hS hb3 c2
            go_wp2_with fail
            go_ret
            have HF := (HU.out n).symm.trans (HK.out.2 n (by omega))
            rw [← HF]
            exact ⟨rfl, hS3⟩
          · rw [hlt] at c2
            have HU := Lib.hid (fun f => down_go (f := f) (l := M) (i := k) (n := n) h1' (by rw [hch]; exact hlt))
            have HC := Lib.hid hch
            clear hlt hch
            refine c2.mono ?_
            rintro e w3 ⟨rfl, hb3⟩
            have c3 := pileSwap_any (hS.below_ hb3) (i := k) (k := 2 * k + 2) (by have := HK.out.1; have := Hnl.out; omega) (by have := HK.out.1; have := Hnl.out; omega)
            rw [show ((2 * k + 2 : Nat) : Int) = 2 * (k : Int) + 1 + 1 by omega] at c3
            clear hS hb3 c2
            go_wp2_with fail
            refine c3.mono ?_
            rintro e w4 ⟨rfl, hS4⟩
            clear c3
            go_wp2_with fail
            go_roundw
            case rel =>
              refine ⟨2 * k + 2, Hp.swap M k (2 * k + 2), by omega, by rw [show ((2 * k + 2 : Nat) : Int) = 2 * (k : Int) + 1 + 1 by omega], hS4, Lib.hid ⟨by rw [Hp.swap_length]; exact HK.out.1, fun f hf => ?_⟩⟩
              have h9 := HU.out (f + n)
              rw [HC.out] at h9
              rw [down_fuel f (f + n) _ _ _ hf (by omega), ← h9]
              exact HK.out.2 _ (by omega)
            case measure => simp [intOf]; omega
      · go_wp2_with fail
        have hch : Hp.child M k n = 2 * k + 1 := child_one (fun h => absurd h h2)
        have c2 := pileLess_any hS (i := 2 * k + 1) (k := k) (by have := HK.out.1; have := Hnl.out; omega) (by have := HK.out.1; have := Hnl.out; omega)
        rw [show ((2 * k + 1 : Nat) : Int) = 2 * (k : Int) + 1 by omega] at c2
        cases hlt : (Hp.g M (2 * k + 1)).lt (Hp.g M k)
        · rw [hlt] at c2
          have HU := Lib.hid (fun f => down_stay (f := f) (l := M) (i := k) (n := n) (by rw [hch]; exact hlt))
          clear hlt hch
          refine c2.mono ?_
          rintro e w3 ⟨rfl, hb3⟩
          have hS3 := hS.below_ hb3
          clear hS hb3 c2
          go_wp2_with fail
          go_ret
          have HF := (HU.out n).symm.trans (HK.out.2 n (by omega))
          rw [← HF]
          exact ⟨rfl, hS3⟩
        · rw [hlt] at c2
          have HU := Lib.hid (fun f => down_go (f := f) (l := M) (i := k) (n := n) h1' (by rw [hch]; exact hlt))
          have HC := Lib.hid hch
          clear hlt hch
          refine c2.mono ?_
          rintro e w3 ⟨rfl, hb3⟩
          have c3 := pileSwap_any (hS.below_ hb3) (i := k) (k := 2 * k + 1) (by have := HK.out.1; have := Hnl.out; omega) (by have := HK.out.1; have := Hnl.out; omega)
          rw [show ((2 * k + 1 : Nat) : Int) = 2 * (k : Int) + 1 by omega] at c3
          clear hS hb3 c2
          go_wp2_with fail
          refine c3.mono ?_
          rintro e w4 ⟨rfl, hS4⟩
          clear c3
          go_wp2_with fail
          go_roundw
          case rel =>
            refine ⟨2 * k + 1, Hp.swap M k (2 * k + 1), by omega, by rw [show ((2 * k + 1 : Nat) : Int) = 2 * (k : Int) + 1 by omega], hS4, Lib.hid ⟨by rw [Hp.swap_length]; exact HK.out.1, fun f hf => ?_⟩⟩
            have h9 := HU.out (f + n)
            rw [HC.out] at h9
            rw [down_fuel f (f + n) _ _ _ hf (by omega), ← h9]
            exact HK.out.2 _ (by omega)
          case measure => simp [intOf]; omega
end
end Go.Proofs.YtepaanpdjadakaaGreatDoor

/-! container/heap over the pile: Push, Pop, Remove, Fix. -/
namespace Go.Proofs.YtepaanpdjadakaaGreatDoor
open Go Go.RowKit

section
variable {B : Nat} {w0 w w' : World} {F : HP} {p : Nat} {L : List Ent}
set_option maxRecDepth 8000 in
set_option maxHeartbeats 1000000 in
theorem hPush_any (h : Sat B w0 w (pile p L • F)) (x : Ent) (hl : L.length ≤ 4096) (hn : ∀ i, i < L.length → (Hp.g L i).id ≠ x.id) :
    Calls Tryz.prog 68 #[.iface 102 (.pointer (some ⟨p, 0, none⟩)), .iface 113 (.agg x.enc.toArray)] w fun e w' =>
    e = .returned (.tuple #[]) ∧ Sat B w0 w' (pile p (Hp.up L.length (L ++ [x]) L.length) • F) := by
  have c1 := pilePush_any h x hl hn
  have mP := m_Push
  have mL := m_Len
  have HN := Lib.hid hn
  clear h hn
  go_enter Tryz.func68, Tryz.ntmps68
  go_wp2_with fail
  refine c1.mono ?_
  rintro e w1 ⟨rfl, hS⟩
  have c2 := pileLen_any hS
  rw [List.length_append, List.length_singleton] at c2
  have c3 := up_any hS (j := L.length) (by simp) L.length (Nat.le_refl _)
  clear c1 hS
  go_wp2_with fail
  refine c2.mono ?_
  rintro e w2 ⟨rfl, rfl⟩
  go_wp2_with fail
  refine c3.mono ?_
  rintro e w3 ⟨rfl, hS3⟩
  go_wp2_with fail
  go_end0
  exact ⟨rfl, hS3⟩
theorem down_length : ∀ (f : Nat) (l : List Ent) (i n : Nat), (Hp.down f l i n).1.length = l.length := by
  intro f
  induction f with
  | zero => intro l i n; rfl
  | succ f ih =>
    intro l i n
    rw [Hp.down]
    split
    · rfl
    · split
      · rw [ih, Hp.swap_length]
      · rfl
theorem up_length : ∀ (f : Nat) (l : List Ent) (j : Nat), (Hp.up f l j).length = l.length := by
  intro f
  induction f with
  | zero => intro l j; rfl
  | succ f ih =>
    intro l j
    rw [Hp.up]
    split
    · rfl
    · split
      · rw [ih, Hp.swap_length]
      · rfl
theorem fix_length (l : List Ent) (i n : Nat) : (Hp.fix l i n).length = l.length := by
  unfold Hp.fix
  split
  · exact down_length _ _ _ _
  · rw [up_length, down_length]
set_option maxRecDepth 8000 in
set_option maxHeartbeats 1000000 in
theorem hFix_any (h : Sat B w0 w (pile p L • F)) {i : Nat} (hi : i < L.length) (hl : L.length ≤ 4096) :
    Calls Tryz.prog 54 #[.iface 102 (.pointer (some ⟨p, 0, none⟩)), .int .i64 i] w fun e w' =>
    e = .returned (.tuple #[]) ∧ Sat B w0 w' (pile p (Hp.fix L i L.length) • F) := by
  have c1 := pileLen_any h
  have c2 := down_any h (i0 := i) (n := L.length) (Nat.le_refl _) (by omega) (by omega) L.length (by omega)
  have mL := m_Len
  have hfx : ∀ b, decide (i < (Hp.down L.length L i L.length).2) = b → Hp.fix L i L.length = if b then (Hp.down L.length L i L.length).1 else Hp.up L.length (Hp.down L.length L i L.length).1 i := by
    intro b hb
    unfold Hp.fix
    cases b
    · rw [if_neg (by simpa using hb)]; rfl
    · rw [if_pos (by simpa using hb)]; rfl
  have hdl := down_length L.length L i L.length
  cases hd : decide (i < (Hp.down L.length L i L.length).2)
  · rw [hd] at c2
    rw [hfx _ hd]
    have HDL := Lib.hid hdl
    have HI := Lib.hid hi
    clear hfx hdl hd h hi
    go_enter Tryz.func54, Tryz.ntmps54
    go_wp2_with fail
    refine c1.mono ?_
    rintro e w1 ⟨rfl, rfl⟩
    go_wp2_with fail
    refine c2.mono ?_
    rintro e w2 ⟨rfl, hS2⟩
    have c3 := up_any hS2 (j := i) (by rw [HDL.out]; exact HI.out) L.length (by have := HI.out; omega)
    clear c1 c2 hS2
    go_wp2_with fail
    refine c3.mono ?_
    rintro e w3 ⟨rfl, hS3⟩
    go_wp2_with fail
    go_end0
    exact ⟨rfl, hS3⟩
  · rw [hd] at c2
    rw [hfx _ hd]
    clear hfx hdl hd h hi
    go_enter Tryz.func54, Tryz.ntmps54
    go_wp2_with fail
    refine c1.mono ?_
    rintro e w1 ⟨rfl, rfl⟩
    go_wp2_with fail
    refine c2.mono ?_
    rintro e w2 ⟨rfl, hS2⟩
    clear c1 c2
    go_wp2_with fail
    go_end0
    exact ⟨rfl, hS2⟩
set_option maxRecDepth 8000 in
set_option maxHeartbeats 2000000 in
theorem hRemove_any (h : Sat B w0 w (pile p L • F)) {i : Nat} (hi : i < L.length) (hl : L.length ≤ 4096) :
    Calls Tryz.prog 76 #[.iface 102 (.pointer (some ⟨p, 0, none⟩)), .int .i64 i] w fun e w' =>
    (∃ x : Ent, e = .returned (.iface 113 (.agg x.enc.toArray))) ∧ Sat B w0 w' (pile p (Hp.remove L i) • F) := by
  obtain ⟨m, hm⟩ : ∃ m, L.length = m + 1 := ⟨L.length - 1, by omega⟩
  have c1 := pileLen_any h
  rw [hm] at c1
  have mL := m_Len
  have mS := m_Swap
  have mP := m_Pop
  have hm4 : m ≤ 4096 := by omega
  by_cases e : m = i
  · subst e
    have hP : Hp.remove L m = L.dropLast := by unfold Hp.remove; rw [hm, if_pos (by omega)]
    rw [hP]
    have c2 := pilePop_any h hm
    clear h hm hi hl hP
    go_enter Tryz.func76, Tryz.ntmps76
    go_wp2_with fail
    refine c1.mono ?_
    rintro e w1 ⟨rfl, rfl⟩
    go_wp2_with fail
    refine c2.mono ?_
    rintro e w2 ⟨rfl, hS2⟩
    go_wp2_with fail
    go_ret
    exact ⟨⟨_, rfl⟩, hS2⟩
  · have hne : ((m : Int) != (i : Int)) = true := by rw [bne_iff_ne]; omega
    have him : i < m := by omega
    have c2 := pileSwap_any h (i := i) (k := m) hi (by omega)
    have hsl : (Hp.swap L i m).length = m + 1 := by rw [Hp.swap_length, hm]
    have hP : ∀ b, decide (i < (Hp.down m (Hp.swap L i m) i m).2) = b → Hp.remove L i = (if b then (Hp.down m (Hp.swap L i m) i m).1 else Hp.up m (Hp.down m (Hp.swap L i m) i m).1 i).dropLast := by
      intro b hb
      unfold Hp.remove
      rw [hm, Nat.add_sub_cancel, if_neg e]
      unfold Hp.fix
      cases b
      · rw [if_neg (by simpa using hb)]; rfl
      · rw [if_pos (by simpa using hb)]; rfl
    generalize Hp.swap L i m = M at *
    have hdl := down_length m M i m
    rw [hsl] at hdl
    have HSL := Lib.hid hsl
    have HDL := Lib.hid hdl
    cases hd : decide (i < (Hp.down m M i m).2)
    · rw [hP _ hd]
      have HD := Lib.hid hd
      clear hP h hm hi hl hsl hdl hd e
      go_enter Tryz.func76, Tryz.ntmps76
      go_wp2_with fail
      refine c1.mono ?_
      rintro e w1 ⟨rfl, rfl⟩
      go_wp2_with fail
      refine c2.mono ?_
      rintro e w2 ⟨rfl, hS2⟩
      have c3 := down_any hS2 (i0 := i) (n := m) (by rw [HSL.out]; omega) (by rw [HSL.out]; omega) (by omega) m (by omega)
      rw [HD.out] at c3
      clear c1 c2 hS2
      go_wp2_with fail
      refine c3.mono ?_
      rintro e w3 ⟨rfl, hS3⟩
      have c4 := up_any hS3 (j := i) (by rw [HDL.out]; omega) m (by omega)
      clear c3 hS3
      go_wp2_with fail
      refine c4.mono ?_
      rintro e w4 ⟨rfl, hS4⟩
      have c5 := pilePop_any hS4 (m := m) (by rw [up_length, HDL.out])
      clear c4 hS4
      go_wp2_with fail
      refine c5.mono ?_
      rintro e w5 ⟨rfl, hS5⟩
      go_wp2_with fail
      go_ret
      exact ⟨⟨_, rfl⟩, hS5⟩
    · rw [hP _ hd]
      have HD := Lib.hid hd
      clear hP h hm hi hl hsl hdl hd e
      go_enter Tryz.func76, Tryz.ntmps76
      go_wp2_with fail
      refine c1.mono ?_
      rintro e w1 ⟨rfl, rfl⟩
      go_wp2_with fail
      refine c2.mono ?_
      rintro e w2 ⟨rfl, hS2⟩
      have c3 := down_any hS2 (i0 := i) (n := m) (by rw [HSL.out]; omega) (by rw [HSL.out]; omega) (by omega) m (by omega)
      rw [HD.out] at c3
      clear c1 c2 hS2
      go_wp2_with fail
      refine c3.mono ?_
      rintro e w3 ⟨rfl, hS3⟩
      have c5 := pilePop_any hS3 (m := m) HDL.out
      clear c3 hS3
      go_wp2_with fail
      refine c5.mono ?_
      rintro e w5 ⟨rfl, hS5⟩
      go_wp2_with fail
      go_ret
      exact ⟨⟨_, rfl⟩, hS5⟩
end
end Go.Proofs.YtepaanpdjadakaaGreatDoor
