import Derived.Test.YtepaanpdjadakaaDoorArr2
import Derived.Test.YtepaanpdjadakaaDoorExp8
import Derived.Test.YtepaanpdjadakaaDoorFail
import Derived.Test.YtepaanpdjadakaaDoorBaseQ
/-! The reference: Move. -/
namespace Go.Proofs.YtepaanpdjadakaaDoor
open Go Go.RowKit

attribute [local irreducible] wpOrd
section
variable {B : Nat} {w0 w w' : World} {F : HP} {b : Nat} {n : Int} {S : List Ent} {v : Value}
set_option maxRecDepth 8000 in
set_option maxHeartbeats 4000000 in
theorem eMove_any (h : Sat B w0 w (ends b n S • F)) (hl : S.length ≤ 1000) (hn : Nd S) (id a : Int) : Calls Tryd.prog 31 #[.pointer (some ⟨b, 0, none⟩), .int .i64 id, .int .u64 a] w fun e w' =>
    e = .returned (failV (noneC S id)) ∧ Sat B w0 w' (ends b n (withDue S id a) • F) := by
  have hx := h.alloc (.cells zeroFail 46)
  have c1 := ePlace_any hx.pull2 hl id
  unfold zeroFail at hx c1
  rcases eplc_cases S id with ⟨h1, h2⟩ | ⟨k, x, h1, h2, h3, h4⟩
  · rw [h1] at c1
    rw [noneC_no h2, withDue_no h2]
    clear h1 h2 h
    go_enter Tryd.func31, Tryd.ntmps31
    go_wp2_with fail
    refine c1.mono ?_
    rintro e w1 ⟨rfl, rfl⟩
    go_wp2_with fail
    refine (bare_any 20 _).mono ?_
    rintro e w8 ⟨rfl, hb8⟩
    obtain ⟨W9, hst, hS9⟩ := fail_store (c := 20) (hx.below_ hb8) rfl
    have hld := fail_load hS9
    have HS9 := Lib.hid hS9
    clear hS9
    go_wp2_with (refine wpList_store_run (t := 46) rfl rfl rfl rfl hst ?_)
    refine ret_cell rfl rfl hld rfl ?_
    exact ⟨rfl, HS9.out.drop⟩
  · rw [noneC_yes h4]
    rw [h3] at c1
    have hkl := (List.getElem?_eq_some_iff.1 h1).1
    obtain ⟨A, c, hS⟩ := hx.pull2.ends_open
    have d1 : (w.alloc (.cells #[.int .i64 0, .int .i64 0, .bool false] 46)).cell? ⟨b, 1, none⟩ = some (.slice A S.length c) := by simp [World.cell?, hS.heap]
    generalize hW : w.alloc (.cells #[.int .i64 0, .int .i64 0, .bool false] 46) = W at *
    have HW := Lib.hid hW
    rw [← set_of_due (a := a) hn h1 h2]
    obtain ⟨v1, w2, hr1, hA1⟩ := (arr_nil (e := 34) (sz := 2) hS).append (m := S.length) (news := S.flatMap Ent.enc) (t := 30) (ty := 30) (P := Tryd.prog) (x := .slice A S.length c) Tryd.underlying30 entry_zero' (by simp [Value.cells]) (by decide) hS.pull2.arr_reads (flat_ent_length S) (flat_one S) (by unfold maxLen; omega) (by omega)
    rw [Nat.zero_add, List.nil_append] at hA1
    rcases hA1.arr_open with ⟨_, h0, _, _⟩ | ⟨g, cap, cur, rfl, q1, q2, q3, q4, hA2⟩
    · omega
    obtain ⟨w3, hr2, hA3⟩ := one_store (o := 1) (ty := 30) (u := .slice (some ⟨g, 0, none⟩) S.length cap) hA2.pull2 (by kernel_rfl) (by simp) rfl rfl
    have hg : Hp.g S k = x := by rw [← Option.some_inj, ← g_get hkl, h1]
    have d2 : w3.cell? ⟨b, 1, none⟩ = some (.slice (some ⟨g, 0, none⟩) S.length cap) := by simp [World.cell?, hA3.heap]
    obtain ⟨w4, hr3, hA4⟩ := one_store (o := k * 2 + 1) (ty := 23) (u := .int .u64 a) hA3.pull2 (by kernel_rfl) (by omega) rfl rfl
    have hcur : (cur.setIfInBounds (k * 2 + 1) (.int .u64 a)).toList.take (S.length * 2) = (S.set k ⟨id, a⟩).flatMap Ent.enc := by
      rw [← splice_one (by omega), setAt_enc x a cur k q4 (by omega) hkl hg, h2]
      exact take_splice_set Ent.enc_length (by decide) q4 rfl (by omega) hkl _
    have hA5 : Sat B w0 w4 (ends b n (S.set k ⟨id, a⟩) • blk w.heap.size (.cells #[.int .i64 0, .int .i64 0, .bool false] 46) • F) := by
      refine Sat.ends_shut (v := .slice (some ⟨g, 0, none⟩) S.length cap) ?_
      have h7 := Sat.arr_shut (xs := (S.set k ⟨id, a⟩).flatMap Ent.enc) q1 q2 (by simpa using q3) hcur hA4
      rw [List.length_set]
      have h8 := (h7.to (by ac_rfl : _ = arr 34 2 (.slice A S.length c) S.length (S.flatMap Ent.enc) • blk b (.cells (#[Value.int .i64 n, .slice A S.length c].setIfInBounds 1 (.slice (some ⟨g, 0, none⟩) S.length cap)) 52) • arr 34 2 (.slice (some ⟨g, 0, none⟩) S.length cap) S.length ((S.set k ⟨id, a⟩).flatMap Ent.enc) • blk w.heap.size (.cells #[.int .i64 0, .int .i64 0, .bool false] 46) • F)).drop
      exact h8
    obtain ⟨w5, hst, hS9⟩ := fail_store (c := 0) hA5.pull2 rfl
    have hld := fail_load hS9
    have HS9 := Lib.hid hS9.drop
    generalize S.length = sl at *
    clear hW hS9 hA5 hA4 hA3 hA2 hA1 hS h1 h2 h3 h4 hg hcur q3 q4 h hn
    go_enter Tryd.func31, Tryd.ntmps31
    go_wp2_with fail
    rw [HW.out]
    clear HW
    refine c1.mono ?_
    rintro e w1 ⟨rfl, rfl⟩
    clear c1
    go_wp2_with (refine wpList_append_run rfl _ _ _ rfl rfl rfl hr1 (stop_ ?_))
    unfold Stop
    go_wp2_with (refine wpList_store_run (t := 30) rfl rfl rfl rfl hr2 (stop_ ?_))
    unfold Stop
    go_wp2_with (refine wpList_store_run (t := 23) rfl rfl rfl rfl hr3 (stop_ ?_))
    unfold Stop
    go_wp2_with (refine wpList_store_run (t := 46) rfl rfl rfl rfl hst ?_)
    refine ret_cell rfl rfl hld rfl ?_
    exact ⟨rfl, HS9.out⟩
end
end Go.Proofs.YtepaanpdjadakaaDoor
