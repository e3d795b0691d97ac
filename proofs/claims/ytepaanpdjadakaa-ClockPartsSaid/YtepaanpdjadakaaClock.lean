import Derived.Test.YtepaanpdjadakaaProg
import Derived.WalkKit
import Derived.WalkLawsBesides
import Derived.WalkSpells
import Derived.KernelRfl
import Derived.Lib.Hide
namespace Go.Proofs.Ytepaanpdjadakaa
open Go Go.RowKit

def aft (now n : Int) : Int := if n > 18446744073709551615 - now then 18446744073709551615 else now + n
theorem aft_yes {now n : Int} (h : n > 18446744073709551615 - now) : aft now n = 18446744073709551615 := by unfold aft; rw [if_pos h]
theorem aft_no {now n : Int} (h : ¬ n > 18446744073709551615 - now) : aft now n = now + n := by unfold aft; rw [if_neg h]

set_option maxHeartbeats 400000 in
theorem after_any (now n : Int) (w : World) (h0 : 0 ≤ now) (h1 : now ≤ 18446744073709551615) (h2 : 0 ≤ n) (h3 : n ≤ 18446744073709551615) :
    Calls Try.prog 12 #[.int .u64 now, .int .u64 n] w fun e w' => e = .returned (.int .u64 (aft now n)) ∧ w' = w := by
  by_cases h : n > 18446744073709551615 - now
  · rw [aft_yes h]
    go_enter Try.func12, Try.ntmps12
    go_wp2
    go_ret
    exact ⟨rfl, rfl⟩
  · rw [aft_no h]
    go_enter Try.func12, Try.ntmps12
    go_wp2
    go_ret
    exact ⟨rfl, rfl⟩
theorem sum_any (now n : Int) (w : World) (h0 : 0 ≤ now) (h1 : now ≤ 18446744073709551615) (h2 : 0 ≤ n) (h3 : n ≤ 18446744073709551615) :
    Calls Try.prog 26 #[.int .u64 now, .int .u64 n] w fun e w' => e = .returned (.int .u64 (aft now n)) ∧ w' = w := by
  by_cases h : n > 18446744073709551615 - now
  · rw [aft_yes h]
    go_enter Try.func26, Try.ntmps26
    go_wp2
    all_goals go_ret
    all_goals exact ⟨rfl, rfl⟩
  · rw [aft_no h]
    go_enter Try.func26, Try.ntmps26
    go_wp2
    all_goals go_ret
    all_goals exact ⟨rfl, rfl⟩
theorem new_any (w : World) : Calls Try.prog 10 #[] w fun e w' => e = .returned (.pointer (some ⟨w.heap.size, 0, none⟩)) ∧ w' = w.alloc (.cells #[.int .u64 0] 62) := by
  go_enter Try.func10, Try.ntmps10
  go_wp2
  go_ret
  exact ⟨rfl, rfl⟩
theorem now_any (b : Nat) (t : Int) (w : World) (hc : w.cell? ⟨b, 0, none⟩ = some (.int .u64 t)) : Calls Try.prog 14 #[.pointer (some ⟨b, 0, none⟩)] w fun e w' => e = .returned (.int .u64 t) ∧ w' = w := by
  go_enter Try.func14, Try.ntmps14
  go_wp2
  go_ret
  exact ⟨rfl, rfl⟩
theorem caft_any (b : Nat) (t n : Int) (w : World) (h0 : 0 ≤ t) (h1 : t ≤ 18446744073709551615) (h2 : 0 ≤ n) (h3 : n ≤ 18446744073709551615) (hc : w.cell? ⟨b, 0, none⟩ = some (.int .u64 t)) :
    Calls Try.prog 15 #[.pointer (some ⟨b, 0, none⟩), .int .u64 n] w fun e w' => e = .returned (.int .u64 (aft t n)) ∧ w' = w := by
  go_enter Try.func15, Try.ntmps15
  go_wp2_with (go_at_call 26; refine (sum_any t n _ h0 h1 h2 h3).mono ?_; rintro e w' ⟨rfl, rfl⟩)
  go_ret
  exact ⟨rfl, rfl⟩
theorem tick_any (b : Nat) (t n : Int) (w : World) (h0 : 0 ≤ t) (h1 : t ≤ 18446744073709551615) (h2 : 0 ≤ n) (h3 : n ≤ 18446744073709551615) (hc : w.cell? ⟨b, 0, none⟩ = some (.int .u64 t)) (hf : w.frozen? ⟨b, 0, none⟩ = false) :
    Calls Try.prog 13 #[.pointer (some ⟨b, 0, none⟩), .int .u64 n] w fun e w' => e = .returned (.int .u64 (aft t n)) ∧ w' = w.setCell ⟨b, 0, none⟩ (.int .u64 (aft t n)) := by
  go_enter Try.func13, Try.ntmps13
  go_wp2_with (go_at_call 26; refine (sum_any t n _ h0 h1 h2 h3).mono ?_; rintro e w' ⟨rfl, rfl⟩)
  go_ret
  exact ⟨rfl, rfl⟩
theorem now_nil (w : World) : Calls Try.prog 14 #[.pointer none] w fun e w' => e = .returned (.int .u64 0) ∧ w' = w := by
  go_enter Try.func14, Try.ntmps14
  go_wp2
  go_ret
  exact ⟨rfl, rfl⟩
theorem tick_nil (n : Int) (w : World) : Calls Try.prog 13 #[.pointer none, .int .u64 n] w fun e w' => e = .returned (.int .u64 0) ∧ w' = w := by
  go_enter Try.func13, Try.ntmps13
  go_wp2
  go_ret
  exact ⟨rfl, rfl⟩
theorem caft_nil (n : Int) (w : World) : Calls Try.prog 15 #[.pointer none, .int .u64 n] w fun e w' => e = .returned (.int .u64 0) ∧ w' = w := by
  go_enter Try.func15, Try.ntmps15
  go_wp2
  go_ret
  exact ⟨rfl, rfl⟩

theorem awake_any (w : World) : Calls Try.prog 11 #[] w fun e w' => e = .returned (.bool true) ∧ Below w.heap.size w w' := by
  go_enter Try.func11, Try.ntmps11
  go_wp2_with fail
  refine (new_any _).mono ?_
  rintro e w' ⟨rfl, rfl⟩
  go_wp2_with fail
  refine (now_any _ 0 _ (by simp)).mono ?_
  rintro e w' ⟨rfl, rfl⟩
  go_wp2_with fail
  refine (tick_any _ 0 _ _ (by omega) (by omega) (by omega) (by omega) (by simp) (by simp)).mono ?_
  rintro e w' ⟨rfl, rfl⟩
  rw [show aft 0 5 = 5 from rfl]
  go_wp2_with fail
  refine (now_any _ 5 _ (by simp)).mono ?_
  rintro e w' ⟨rfl, rfl⟩
  go_wp2_with fail
  refine (caft_any _ 5 _ _ (by omega) (by omega) (by omega) (by omega) (by simp)).mono ?_
  rintro e w' ⟨rfl, rfl⟩
  rw [show aft 5 2 = 7 from rfl]
  go_wp2
  go_ret
  exact ⟨rfl, (Below.refl _ _).alloc (Nat.le_refl _) _⟩
theorem awake_at (w : World) : Calls Try.prog 11 #[] w fun e w' => e = .returned (.bool true) ∧ w' = w.alloc (.cells #[.int .u64 5] 62) := by
  go_enter Try.func11, Try.ntmps11
  go_wp2_with fail
  refine (new_any _).mono ?_
  rintro e w' ⟨rfl, rfl⟩
  go_wp2_with fail
  refine (now_any _ 0 _ (by simp)).mono ?_
  rintro e w' ⟨rfl, rfl⟩
  go_wp2_with fail
  refine (tick_any _ 0 _ _ (by omega) (by omega) (by omega) (by omega) (by simp) (by simp)).mono ?_
  rintro e w' ⟨rfl, rfl⟩
  rw [show aft 0 5 = 5 from rfl]
  go_wp2_with fail
  refine (now_any _ 5 _ (by simp)).mono ?_
  rintro e w' ⟨rfl, rfl⟩
  go_wp2_with fail
  refine (caft_any _ 5 _ _ (by omega) (by omega) (by omega) (by omega) (by simp)).mono ?_
  rintro e w' ⟨rfl, rfl⟩
  rw [show aft 5 2 = 7 from rfl]
  go_wp2
  go_ret
  exact ⟨rfl, rfl⟩
theorem nil_any (n : Int) (w : World) : Calls Try.prog 4 #[.int .u64 n] w fun e w' => e = .returned (.bool true) ∧ w' = w.alloc (.cells #[.int .u64 5] 62) := by
  go_enter Try.func4, Try.ntmps4
  go_wp2_with fail
  refine (awake_at _).mono ?_
  rintro e w' ⟨rfl, rfl⟩
  go_wp2_with fail
  refine (now_nil _).mono ?_
  rintro e w' ⟨rfl, rfl⟩
  go_wp2_with fail
  refine (tick_nil _ _).mono ?_
  rintro e w' ⟨rfl, rfl⟩
  go_wp2_with fail
  refine (caft_nil _ _).mono ?_
  rintro e w' ⟨rfl, rfl⟩
  go_wp2
  go_ret
  exact ⟨rfl, rfl⟩

theorem aft_bd {t n : Int} (h0 : 0 ≤ t) (h1 : t ≤ 18446744073709551615) (h2 : 0 ≤ n) (h3 : n ≤ 18446744073709551615) : 0 ≤ aft t n ∧ aft t n ≤ 18446744073709551615 ∧ t ≤ aft t n := by
  unfold aft; split <;> omega
theorem aft_max {t : Int} (h0 : 0 ≤ t) (h1 : t ≤ 18446744073709551615) : aft t 18446744073709551615 = 18446744073709551615 := by
  unfold aft; split <;> omega
theorem aft_from_max {n : Int} (h2 : 0 ≤ n) : aft 18446744073709551615 n = 18446744073709551615 := by
  unfold aft; split <;> omega

def IsRow (k : IntKind) (w : World) (a : Option Addr) (len cap : Nat) (zs : List Int) : Prop :=
  (a = none ∧ len = 0 ∧ cap = 0 ∧ zs = []) ∨
  ∃ x, a = some x ∧ len ≤ cap ∧ cap ≤ maxLen ∧ zs.length = cap ∧ (∀ i, i < zs.length → w.cell? (x.add i) = some (.int k (zs.getD i 0))) ∧ ∀ n ∈ zs, (Lit.int k n).wf = true

theorem IsRow.len_le {k : IntKind} {w : World} {a : Option Addr} {len cap : Nat} {zs : List Int} (h : IsRow k w a len cap zs) : len ≤ maxLen := by
  rcases h with ⟨_, rfl, _⟩ | ⟨x, _, h1, h2, _⟩
  · exact Nat.zero_le _
  · omega
theorem IsRow.at_ {k : IntKind} {w : World} {a : Option Addr} {len cap : Nat} {zs : List Int} (h : IsRow k w a len cap zs) {i : Nat} (hi : i < len) :
    ∃ x, a = some x ∧ w.cell? (x.add i) = some (.int k (zs.getD i 0)) ∧ x.block < w.heap.size ∧ (Lit.int k (zs.getD i 0)).wf = true := by
  rcases h with ⟨_, rfl, _⟩ | ⟨x, rfl, h1, h2, h3, h4, h5⟩
  · omega
  · have hc := h4 i (by omega)
    refine ⟨x, rfl, hc, ?_, h5 _ ?_⟩
    · have := World.block_lt_of_cell? _ _ hc
      unfold Addr.add at this
      split at this <;> exact this
    · rw [List.getD_eq_getElem?_getD, List.getElem?_eq_getElem (by omega)]
      exact List.getElem_mem _

theorem wf_u64 {n : Int} (h : (Lit.int .u64 n).wf = true) : 0 ≤ n ∧ n ≤ 18446744073709551615 := by
  simp [Lit.wf, IntKind.signed, IntKind.bits, IntKind.min, IntKind.max] at h
  omega

set_option maxHeartbeats 1000000 in
theorem ticks_any (a0 : Option Addr) (len0 cap0 : Nat) (z0 : List Int) (ask : Int) (w : World) (w0 : IsRow .u64 w a0 len0 cap0 z0) (w1 : (Lit.int .u64 ask).wf = true) :
    Calls Try.prog 3 #[.slice a0 len0 cap0, .int .u64 ask] w fun e w' => e = .returned (.bool true) ∧ Below w.heap.size w w' := by
  obtain ⟨ha0, ha1⟩ := wf_u64 w1
  have hlen := w0.len_le
  unfold maxLen at hlen
  go_enter Try.func3, Try.ntmps3
  go_wp2_with fail
  refine (new_any _).mono ?_
  rintro e w' ⟨rfl, rfl⟩
  go_wp2_with fail
  refine (awake_any _).mono ?_
  rintro e w' ⟨rfl, hb⟩
  go_wp2_with fail
  have hz : w.heap.size + 1 ≤ w'.heap.size := by have := hb.size; simpa using this
  have hc0 : w'.cell? ⟨w.heap.size, 0, none⟩ = some (.int .u64 0) := by rw [hb.cell (by simp)]; simp
  have hf0 : w'.frozen? ⟨w.heap.size, 0, none⟩ = false := by rw [hb.frozen (by simp)]; simp
  have hB : Below w.heap.size w w' := ((Below.refl _ _).alloc (Nat.le_refl _) _).trans (hb.mono (by simp))
  go_loopw [6, 7] (fun now i wr => ∃ (k : Nat) (t : Int), k ≤ len0 ∧ i = .int .i64 k ∧ now = .int .u64 t ∧ 0 ≤ t ∧ t ≤ 18446744073709551615 ∧ Below w.heap.size w wr ∧ wr.cell? ⟨w.heap.size, 0, none⟩ = some (.int .u64 t) ∧ wr.frozen? ⟨w.heap.size, 0, none⟩ = false)
    (fun _ i _ => len0 - (intOf i).toNat)
  case atStart => exact ⟨0, 0, Nat.zero_le _, rfl, rfl, by omega, by omega, hB, hc0, hf0⟩
  case round =>
    clear hz hc0 hf0 hB hb
    obtain ⟨k, t, hk, rfl, rfl, ht0, ht1, hB, hc, hf⟩ := hrel
    by_cases hlt : k < len0 ∧ k < 100
    · obtain ⟨hl, hh⟩ := hlt
      obtain ⟨x, rfl, hx, hxl, hxw⟩ := w0.at_ hl
      obtain ⟨hn0, hn1⟩ := wf_u64 hxw
      generalize z0.getD k 0 = n at *
      have hx' : wr.cell? (x.add k) = some (.int .u64 n) := by
        rw [hB.cell (by unfold Addr.add; split <;> exact hxl)]; exact hx
      obtain ⟨g0, g1, g2⟩ := aft_bd ht0 ht1 hn0 hn1
      obtain ⟨e0, e1, e2⟩ := aft_bd g0 g1 ha0 ha1
      go_wp2_with fail
      refine (after_any _ _ _ ht0 ht1 hn0 hn1).mono ?_
      rintro e w' ⟨rfl, rfl⟩
      go_wp2_with fail
      refine (tick_any _ _ _ _ ht0 ht1 hn0 hn1 hc hf).mono ?_
      rintro e w' ⟨rfl, rfl⟩
      go_wp2_with fail
      refine (now_any _ (aft t n) _ (World.cell?_setCell_same _ _ _ hc)).mono ?_
      rintro e w' ⟨rfl, rfl⟩
      go_wp2_with fail
      refine (caft_any _ (aft t n) _ _ g0 g1 ha0 ha1 (World.cell?_setCell_same _ _ _ hc)).mono ?_
      rintro e w' ⟨rfl, rfl⟩
      go_wp2_with fail
      refine (after_any _ _ _ g0 g1 ha0 ha1).mono ?_
      rintro e w' ⟨rfl, rfl⟩
      go_wp2_with fail
      refine (caft_any _ (aft t n) _ _ g0 g1 ha0 ha1 (World.cell?_setCell_same _ _ _ hc)).mono ?_
      rintro e w' ⟨rfl, rfl⟩
      go_wp2
      go_roundw
      case rel => exact ⟨k + 1, aft t n, by omega, by go_num, rfl, g0, g1, hB.setCell (by simp) _, World.cell?_setCell_same _ _ _ hc, by rw [World.frozen?_setCell]; exact hf⟩
      case measure => simp [intOf]; omega
    · have hnot : ¬ k < len0 ∨ ¬ k < 100 := by omega
      have em := aft_max ht0 ht1
      have ef := aft_from_max ha0
      have EM := Lib.hid em
      have EF := Lib.hid ef
      clear em ef
      have hm0 : (0:Int) ≤ 18446744073709551615 := by omega
      have hm1 : (18446744073709551615:Int) ≤ 18446744073709551615 := by omega
      by_cases hl : k < len0
      all_goals
        first | have hn : ¬ k < 100 := by omega | skip
        go_wp2_with fail
        refine (tick_any _ t _ _ ht0 ht1 hm0 hm1 hc hf).mono ?_
        rintro e w' ⟨rfl, rfl⟩
        rw [EM.out]
        go_wp2_with fail
        refine (tick_any _ 18446744073709551615 _ _ hm0 hm1 ha0 ha1 (World.cell?_setCell_same _ _ _ hc) (by rw [World.frozen?_setCell]; exact hf)).mono ?_
        rintro e w' ⟨rfl, rfl⟩
        rw [EF.out]
        go_wp2_with fail
        refine (caft_any _ 18446744073709551615 _ _ hm0 hm1 ha0 ha1 (World.cell?_setCell_same _ _ _ (World.cell?_setCell_same _ _ _ hc))).mono ?_
        rintro e w' ⟨rfl, rfl⟩
        rw [EF.out]
        go_wp2
        go_ret
        exact ⟨rfl, (hB.setCell (by simp) _).setCell (by simp) _⟩
end Go.Proofs.Ytepaanpdjadakaa
