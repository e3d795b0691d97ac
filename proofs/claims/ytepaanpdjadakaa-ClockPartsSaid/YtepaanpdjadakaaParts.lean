import Derived.Test.YtepaanpdjadakaaArr
import Derived.Test.YtepaanpdjadakaaOrd
import Derived.Test.YtepaanpdjadakaaClock
import Derived.Test.YtepaanpdjadakaaMem
import Derived.Test.YtepaanpdjadakaaUtil
namespace Go.Proofs.Ytepaanpdjadakaa
open Go Go.RowKit

def nums (k : IntKind) (l : List Int) : List Value := l.map (.int k)
theorem nums_length (k : IntKind) (l : List Int) : (nums k l).length = l.length := by simp [nums]
theorem nums_one (k : IntKind) (l : List Int) : ∀ u ∈ nums k l, u.oneCell' = true := by
  intro u hu; simp only [nums, List.mem_map] at hu; obtain ⟨x, _, rfl⟩ := hu; rfl
theorem IsRow.reads {k : IntKind} {w : World} {a : Option Addr} {len cap : Nat} {zs : List Int} (h : IsRow k w a len cap zs) : Reads w (.slice a len cap) len (nums k (zs.take len)) := by
  rcases h with ⟨rfl, rfl, rfl, rfl⟩ | ⟨x, rfl, h1, h2, h3, h4, h5⟩
  · exact .inl ⟨0, rfl, rfl, by simp [nums]⟩
  · refine .inr ⟨x, cap, rfl, fun j u hu => ?_⟩
    simp only [nums, List.getElem?_map, List.getElem?_take] at hu
    split at hu
    · rename_i hj
      have hj' : j < zs.length := by omega
      rw [List.getElem?_eq_getElem hj'] at hu
      simp at hu
      subst hu
      rw [h4 j hj', List.getD_eq_getElem?_getD, List.getElem?_eq_getElem hj']; rfl
    · simp at hu
theorem IsRow.take_length {k : IntKind} {w : World} {a : Option Addr} {len cap : Nat} {zs : List Int} (h : IsRow k w a len cap zs) : (zs.take len).length = len := by
  rcases h with ⟨rfl, rfl, rfl, rfl⟩ | ⟨x, rfl, h1, h2, h3, h4, h5⟩
  · rfl
  · rw [List.length_take]; omega

def clk (b : Nat) (t : Int) : HP := blk b (.cells #[.int .u64 t] 62)
section
variable {B : Nat} {w0 w : World} {F : HP} {b : Nat} {t n : Int}
theorem Sat.clk_cell (h : Sat B w0 w (clk b t • F)) : w.cell? ⟨b, 0, none⟩ = some (.int .u64 t) := by
  have := Sat.heap h; simp [World.cell?, this]
theorem Sat.clk_free (h : Sat B w0 w (clk b t • F)) : w.frozen? ⟨b, 0, none⟩ = false := by
  have := Sat.heap h; simp [World.frozen?, this]
theorem tick_sat (h : Sat B w0 w (clk b t • F)) (h0 : 0 ≤ t) (h1 : t ≤ 18446744073709551615) (h2 : 0 ≤ n) (h3 : n ≤ 18446744073709551615) :
    Calls Try.prog 13 #[.pointer (some ⟨b, 0, none⟩), .int .u64 n] w fun e w' => e = .returned (.int .u64 (aft t n)) ∧ Sat B w0 w' (clk b (aft t n) • F) :=
  (tick_any b t n w h0 h1 h2 h3 h.clk_cell h.clk_free).mono fun e w' ⟨he, hw⟩ => ⟨he, by subst hw; exact Sat.setCell h⟩
theorem now_sat (h : Sat B w0 w (clk b t • F)) :
    Calls Try.prog 14 #[.pointer (some ⟨b, 0, none⟩)] w fun e w' => e = .returned (.int .u64 t) ∧ w' = w := now_any b t w h.clk_cell
end
theorem aft_comm {x y : Int} (hx : 0 ≤ x) (hy : 0 ≤ y) (z : Int) : aft (aft z x) y = aft (aft z y) x := by
  unfold aft; repeat' split
  all_goals omega
def till (l : List Int) : Int := l.foldl aft 0
theorem till_bd (l : List Int) (h : ∀ x ∈ l, 0 ≤ x ∧ x ≤ 18446744073709551615) : 0 ≤ till l ∧ till l ≤ 18446744073709551615 := by
  unfold till
  have : ∀ (l : List Int) (a : Int), 0 ≤ a → a ≤ 18446744073709551615 → (∀ x ∈ l, 0 ≤ x ∧ x ≤ 18446744073709551615) → 0 ≤ l.foldl aft a ∧ l.foldl aft a ≤ 18446744073709551615 := by
    intro l
    induction l with
    | nil => intro a h0 h1 _; exact ⟨h0, h1⟩
    | cons x l ih =>
      intro a h0 h1 hx
      obtain ⟨g0, g1⟩ := hx x (by simp)
      have := aft_bd h0 h1 g0 g1
      exact ih _ this.1 this.2.1 fun y hy => hx y (by simp [hy])
  exact this l 0 (by omega) (by omega) h
theorem till_snoc (l : List Int) (k : Nat) (h : k < l.length) : till (l.take (k + 1)) = aft (till (l.take k)) (nth l k) := by
  unfold till
  rw [List.take_add_one, nth_eq h, Option.toList_some, List.foldl_append]
  rfl
theorem till_perm {l m : List Int} (p : l.Perm m) (h : ∀ x ∈ l, 0 ≤ x) : till l = till m :=
  p.foldl_eq' (fun x hx y hy z => aft_comm (h x hx) (h y hy) z) 0

theorem IsRow.bd {w : World} {a : Option Addr} {len cap : Nat} {zs : List Int} (h : IsRow .u64 w a len cap zs) : ∀ x ∈ zs.take len, 0 ≤ x ∧ x ≤ 18446744073709551615 := by
  rcases h with ⟨rfl, rfl, rfl, rfl⟩ | ⟨x, rfl, h1, h2, h3, h4, h5⟩
  · simp
  · exact fun y hy => wf_u64 (h5 y (List.mem_of_mem_take hy))

theorem Sat.nums_at {B : Nat} {w0 w : World} {F : HP} {e : TypeId} {A : Option Addr} {n c : Nat} {k : IntKind} {l : List Int} (h : Sat B w0 w (arr e 1 (.slice A n c) n (nums k l) • F)) {i : Nat} (hi : i < n) :
    ∃ g, A = some ⟨g, 0, none⟩ ∧ w.cell? ⟨g, i, none⟩ = some (.int k (nth l i)) := by
  have hl : l.length = n := by have := h.arr_len; simpa [nums] using this
  rcases h.arr_open with ⟨_, hn, _, _⟩ | ⟨g, cap, cur, hv, hn1, hn2, hn3, hn4, hb⟩
  · omega
  · simp only [Value.slice.injEq] at hv
    refine ⟨g, hv.1, ?_⟩
    have := h.owns.cells (g := g) (by rw [hv.1]; rfl) i (.int k (nth l i)) (by simp [nums, nth_eq (show i < l.length by omega)])
    rwa [Addr.add_mid, Nat.zero_add] at this

theorem ix_of (t : Int) (n : Nat) (h : 0 < n) (hn : n ≤ 9223372036854775807) : ∃ j : Nat, wrap64 ((IntKind.u64.wrap t).tmod n) = (j : Int) ∧ j < n := by
  have h0 : 0 ≤ IntKind.u64.wrap t := by rw [IntKind.wrap_u64]; omega
  rw [Int.tmod_eq_emod_of_nonneg h0]
  have h1 := Int.emod_nonneg (IntKind.u64.wrap t) (show (n : Int) ≠ 0 by omega)
  have h2 := Int.emod_lt_of_pos (IntKind.u64.wrap t) (show (0 : Int) < n by omega)
  refine ⟨((IntKind.u64.wrap t) % n).toNat, ?_, by omega⟩
  unfold wrap64
  omega

theorem IsRow.nth_at {k : IntKind} {w : World} {a : Option Addr} {len cap : Nat} {zs : List Int} (h : IsRow k w a len cap zs) {i : Nat} (hi : i < len) :
    ∃ x, a = some x ∧ x.block < w.heap.size ∧ ∀ W, Below w.heap.size w W → W.cell? (x.add i) = some (.int k (nth (zs.take len) i)) := by
  obtain ⟨x, hx, hc, hl, _⟩ := h.at_ hi
  refine ⟨x, hx, hl, fun W hb => ?_⟩
  rw [hb.cell (by unfold Addr.add; split <;> exact hl), hc]
  simp [nth, List.getD_eq_getElem?_getD, hi]

set_option maxHeartbeats 1000000 in
theorem parts_any (a0 : Option Addr) (len0 cap0 : Nat) (z0 : List Int) (a1 : Option Addr) (len1 cap1 : Nat) (z1 : List Int) (w : World) (w0 : IsRow .u64 w a0 len0 cap0 z0) (w1 : IsRow .i64 w a1 len1 cap1 z1) :
    Calls Try.prog 5 #[.slice a0 len0 cap0, .slice a1 len1 cap1] w fun e w' => e = .returned (.bool true) ∧ Below w.heap.size w w' := by
  have hlen := w0.len_le
  unfold maxLen at hlen
  have hlen1 := w1.len_le
  unfold maxLen at hlen1
  by_cases h60 : 60 < len0
  · go_enter Try.func5, Try.ntmps5
    go_wp2_with fail
    refine (awake_any _).mono ?_
    rintro e w' ⟨rfl, hb⟩
    go_wp2
    go_ret
    exact ⟨rfl, hb⟩
  · have hS := arr_nil (e := 23) (sz := 1) (Sat.start w)
    obtain ⟨vm, wm, hrun, hSm⟩ := hS.append (P := Try.prog) (t := 22) (ty := 22) (z := .int .u64 0) (bytes := 8) Try.underlying22 (by kernel_rfl) rfl (by omega) w0.reads
      (by rw [nums_length, w0.take_length]; omega) (nums_one _ _) (by unfold maxLen; omega) (by omega)
    go_enter Try.func5, Try.ntmps5
    go_wp2_with (at_builtin; refine wpList_append_run rfl _ _ _ rfl rfl rfl hrun ?_)
    rw [Nat.zero_add, List.nil_append] at hSm
    obtain ⟨A, cm, rfl⟩ := hSm.arr_form
    clear hrun
    go_loopw [6] (fun i wr => ∃ (k : Nat) (ms : List Int), k ≤ len1 ∧ i = .int .i64 k ∧ Sat w.heap.size w wr (arr 23 1 (.slice A len0 cm) len0 (nums .u64 ms) • emp) ∧ ms.Perm (z0.take len0))
      (fun i _ => len1 - (intOf i).toNat)
    case atStart => exact ⟨0, _, Nat.zero_le _, rfl, hSm, List.Perm.refl _⟩
    case round =>
      clear hSm hS
      obtain ⟨k, ms, hk, rfl, hSm, hperm⟩ := hrel
      by_cases hc : k < len1 ∧ k < 40 ∧ 0 < len0
      · obtain ⟨hk1, hk2, hl0⟩ := hc
        obtain ⟨x, rfl, hx, hxl, hxw⟩ := w1.at_ hk1
        have hx' : wr.cell? (x.add k) = some (.int .i64 (z1.getD k 0)) := by
          rw [hSm.below.cell (by unfold Addr.add; split <;> exact hxl)]; exact hx
        generalize z1.getD k 0 = tk at *
        go_wp2_with fail
        obtain ⟨j, hj, hjl⟩ := ix_of tk len0 hl0 (by omega)
        rw [hj]
        clear hj
        have hkm : k % len0 < len0 := Nat.mod_lt _ hl0
        rcases hSm.arr_open with ⟨hv, hn, _, _⟩ | ⟨g, cap, cur, hv, hn1, hn2, hn3, hn4, hSb⟩
        · omega
        · simp only [Value.slice.injEq] at hv
          obtain ⟨rfl, _, rfl⟩ := hv
          refine wp_region_ord [(0, .pure), (1, .pure), (2, .pure), (3, .pure), (4, .pure), (5, .pure), (6, .pure), (7, .pure), (8, .pure), (9, .pure), (10, .quiet), (11, .pure), (12, .pure), (13, .pure), (14, .pure), (15, .pure), (16, .pure), (17, .quiet), (18, .pure), (19, .seals), (20, .pure), (21, .seals)]
            (by kernel_rfl) (by kernel_rfl) (fun w' => w'.heap[g]? = some (.cells cur 23 (0, 0))) hSb.heap ?_
          have hmsl : ms.length = len0 := by have := hSm.arr_len; simpa [nums] using this
          have hcur : ∀ i, i < len0 → cur[i]? = some (.int .u64 (nth ms i)) := by
            intro i hi
            have h1 : (cur.toList.take (len0 * 1))[i]? = (nums .u64 ms)[i]? := by rw [hn4]
            rw [List.getElem?_take, if_pos (by omega)] at h1
            simp only [nums, List.getElem?_map, nth_eq (show i < ms.length by omega), Option.map_some] at h1
            simpa using h1
          have hcj := hcur j hjl
          have hck := hcur (k % len0) hkm
          iterate 10 (refine ord_pure rfl rfl rfl (fun K' hK => ?_); go_big_quiet_op; refine hK _ ?_; clear hK K')
          refine ord_load rfl rfl rfl (p := .pointer (some ⟨g, j, none⟩)) rfl (fun w' hC => run_loadAt_one hC Try.underlying23 rfl hcj) (fun K' hK => ?_)
          go_simp
          refine hK _ ?_
          clear hK K'
          iterate 6 (refine ord_pure rfl rfl rfl (fun K' hK => ?_); go_big_quiet_op; refine hK _ ?_; clear hK K')
          refine ord_load rfl rfl rfl (p := .pointer (some ⟨g, k % len0, none⟩)) rfl (fun w' hC => run_loadAt_one hC Try.underlying23 rfl hck) (fun K' hK => ?_)
          go_simp
          refine hK _ ?_
          clear hK K'
          refine ord_pure rfl rfl rfl (fun K' hK => ?_)
          go_big_quiet_op
          refine hK _ ?_
          clear hK K'
          refine ord_store rfl rfl rfl rfl (p := .pointer (some ⟨g, k % len0, none⟩)) (v := .int .u64 (nth ms j)) rfl rfl (run_storeAt_row (hSb.drew).heap (by kernel_rfl) (by simp only [Value.cells, List.size_toArray, List.length_cons, List.length_nil]; omega) (by simp [Value.cells, Value.oneCell'])) (fun _ => True) trivial ?_
          refine ord_pure rfl rfl rfl (fun K' hK => ?_)
          go_big_quiet_op
          refine hK _ ?_
          clear hK K'
          refine ord_store rfl rfl rfl rfl (p := .pointer (some ⟨g, j, none⟩)) (v := .int .u64 (nth ms (k % len0))) rfl rfl (run_storeAt_row (hSb.drew.setRow).heap (by kernel_rfl) (by rw [splice_size (by simp [Value.cells]; omega)]; simp only [Value.cells, List.size_toArray, List.length_cons, List.length_nil]; omega) (by simp [Value.cells, Value.oneCell'])) (fun _ => True) trivial ?_
          refine ord_nil ?_
          have hSe := (hSb.drew.setRow (cs := splice cur (k % len0) [.int .u64 (nth ms j)])).setRow (cs := splice (splice cur (k % len0) [.int .u64 (nth ms j)]) j [.int .u64 (nth ms (k % len0))])
          have hz1 : (splice cur (k % len0) [.int .u64 (nth ms j)]).size = cur.size := splice_size (by simp only [List.length_cons, List.length_nil]; omega)
          have hSe' := hSe.arr_shut (n := len0) (cap := cm) (sz := 1) (xs := nums .u64 ((ms.set (k % len0) (nth ms j)).set j (nth ms (k % len0)))) hn1 hn2
            (by rw [splice_size (by rw [hz1]; simp only [List.length_cons, List.length_nil]; omega), hz1, hn3])
            (by
              rw [splice_one (by rw [hz1]; omega), splice_one (by omega)]
              simp only [Array.toList_setIfInBounds, List.take_set, hn4, nums, List.map_set])
          have hp2 := (swap_perm_any ms (k % len0) j 0 (by omega) (by omega)).trans hperm
          clear hSe hSb hcur hcj hck hn4 hSm
          go_wp2_with fail
          go_roundw
          case rel => exact ⟨k + 1, _, by omega, by go_num, hSe', hp2⟩
          case measure => simp [intOf]; omega
      · have hmsl : ms.length = len0 := by have := hSm.arr_len; simpa [nums] using this
        have hbd := w0.bd
        have hbm : ∀ x ∈ ms, 0 ≤ x ∧ x ≤ 18446744073709551615 := fun x hx => hbd x (hperm.mem_iff.1 hx)
        have hzl := w0.take_length
        have hend := till_perm hperm (fun x hx => (hbm x hx).1)
        have HEND := Lib.hid hend
        clear hend
        have hex : ¬ k < len1 ∨ (k < len1 ∧ ¬ k < 40) ∨ (k < len1 ∧ k < 40 ∧ ¬ 0 < len0) := by omega
        rcases hex with hn | ⟨_, hn⟩ | ⟨_, _, hn⟩
        all_goals
          go_wp2_with fail
          refine (new_any _).mono ?_
          rintro e w' ⟨rfl, rfl⟩
          go_wp2_with fail
          refine (new_any _).mono ?_
          rintro e w' ⟨rfl, rfl⟩
          go_wp2_with fail
          refine (new_any _).mono ?_
          rintro e w' ⟨rfl, rfl⟩
          have hS3 := ((hSm.alloc (.cells #[.int .u64 0] 62)).alloc (.cells #[.int .u64 0] 62)).alloc (.cells #[.int .u64 0] 62)
          simp only [World.size_alloc] at hS3 ⊢
          change Sat _ _ _ (clk _ 0 • clk _ 0 • clk _ 0 • _) at hS3
          generalize hwn : (((wr.alloc (.cells #[.int .u64 0] 62)).alloc (.cells #[.int .u64 0] 62)).alloc (.cells #[.int .u64 0] 62)) = wn at *
          clear hwn
          generalize wr.heap.size + 1 + 1 = bz at *
          generalize wr.heap.size + 1 = by_ at *
          generalize wr.heap.size = bx at *
          clear hSm
          go_wp2_with fail
          go_loopw [11, 12] (fun s i wr => ∃ k : Nat, k ≤ len0 ∧ i = .int .i64 k ∧ s = .int .u64 (till ((z0.take len0).take k)) ∧
              Sat w.heap.size w wr (clk bz 0 • clk by_ (till (ms.take k)) • clk bx (till ((z0.take len0).take k)) • arr 23 1 (.slice A len0 cm) len0 (nums .u64 ms) • emp))
            (fun _ i _ => len0 - (intOf i).toNat)
          case atStart => exact ⟨0, Nat.zero_le _, rfl, rfl, hS3⟩
          case round =>
            obtain ⟨k, hk, rfl, rfl, hS⟩ := hrel
            clear hS3
            by_cases hlt : k < len0
            · obtain ⟨x, rfl, hxl, hx⟩ := w0.nth_at hlt
              have hbx := till_bd _ fun y hy => hbd y (List.mem_of_mem_take (i := k) hy)
              have hby := till_bd _ fun y hy => hbm y (List.mem_of_mem_take (i := k) hy)
              have hn := hbd _ (List.mem_of_getElem? (nth_eq (show k < (z0.take len0).length by omega)))
              have hm := hbm _ (List.mem_of_getElem? (nth_eq (show k < ms.length by omega)))
              have hsx := Lib.hid (till_snoc (z0.take len0) k (by omega))
              have hsy := Lib.hid (till_snoc ms k (by omega))
              obtain ⟨g, rfl, _⟩ := (hS.drop.drop.drop).nums_at hlt
              have hat : ∀ W F, Sat w.heap.size w W (arr 23 1 (.slice (some ⟨g, 0, none⟩) len0 cm) len0 (nums .u64 ms) • F) → W.cell? ⟨g, k, none⟩ = some (.int .u64 (nth ms k)) := by
                intro W F hW
                obtain ⟨g', hg, hc⟩ := hW.nums_at hlt
                cases hg
                exact hc
              generalize nth (z0.take len0) k = n at *
              generalize nth ms k = mk at *
              have hc := hx wr hS.below
              go_wp2_with fail
              refine (tick_sat hS.pull3 hbx.1 hbx.2 hn.1 hn.2).mono ?_
              rintro e w1 ⟨rfl, hS⟩
              rw [← hsx.out] at hS ⊢
              have hc1 := hat w1 _ hS.pull4
              clear hc
              go_wp2_with fail
              refine (tick_sat hS.pull3 hby.1 hby.2 hm.1 hm.2).mono ?_
              rintro e w2 ⟨rfl, hS⟩
              rw [← hsy.out] at hS ⊢
              have hc2 := hx w2 hS.below
              clear hc1
              go_wp2_with fail
              refine (after_any _ _ _ hbx.1 hbx.2 hn.1 hn.2).mono ?_
              rintro e w3 ⟨rfl, rfl⟩
              rw [← hsx.out]
              go_wp2
              go_roundw
              case rel => exact ⟨k + 1, by omega, by go_num, rfl, hS.pull3⟩
              case measure => simp [intOf]; omega
            · have e1 : (z0.take len0).take k = z0.take len0 := List.take_of_length_le (by omega)
              have e2 : ms.take k = ms := List.take_of_length_le (by omega)
              rw [e1, e2, HEND.out] at hS
              rw [e1]
              clear e1 e2
              obtain ⟨hb0, hb1⟩ := till_bd _ hbd
              have hz : aft 0 (till (z0.take len0)) = till (z0.take len0) := by rw [aft_no (by omega)]; omega
              have HZ := Lib.hid hz
              clear hz HEND
              generalize till (z0.take len0) = s at *
              go_wp2_with fail
              refine (awake_any _).mono ?_
              rintro e w1 ⟨rfl, hb⟩
              have hS := hS.below_ hb
              go_wp2_with fail
              refine (now_sat hS.pull3).mono ?_
              rintro e w2 ⟨rfl, rfl⟩
              go_wp2_with fail
              refine (now_sat hS.pull2).mono ?_
              rintro e w3 ⟨rfl, rfl⟩
              go_wp2_with fail
              refine (tick_sat hS (by omega) (by omega) hb0 hb1).mono ?_
              rintro e w4 ⟨rfl, hS⟩
              rw [HZ.out]
              go_wp2
              go_ret
              exact ⟨rfl, hS.below⟩
end Go.Proofs.Ytepaanpdjadakaa
