import Derived.Test.YtepaanpdjadakaaChain9
/-! ChainTells. -/
namespace Go.Proofs.Ytepaanpdjadakaa
open Go Go.RowKit

theorem foundOf_len (l : List Rec) (name : ByteArray) (ttl : Int) : (foundOf l name ttl).length ≤ l.length := by
  have : ∀ k, k ≤ l.length → (foundOf (l.take k) name ttl).length ≤ k := by
    intro k
    induction k with
    | zero => intro _; exact Nat.le_refl _
    | succ k ih =>
      intro hk
      have h1 := foundOf_take l name ttl k _ (List.getElem?_eq_getElem (show k < l.length by omega))
      have h2 := addFound_len name ttl (foundOf (l.take k) name ttl) (l[k]'(by omega))
      rw [h1]
      have := ih (by omega)
      omega
  have h := this l.length (Nat.le_refl _)
  rwa [List.take_length] at h
theorem follow_lens (l : List Rec) : ∀ (k : Nat) (names : List ByteArray) (nm : ByteArray) (tl : Int), names.length ≤ 16 → (followFrom l k names nm tl).1.length ≤ l.length ∧ (followFrom l k names nm tl).2.length ≤ 16 := by
  intro k
  induction k with
  | zero => intro names nm tl _; exact ⟨Nat.zero_le _, Nat.zero_le _⟩
  | succ k ih =>
    intro names nm tl hn
    cases h : nextOf l nm with
    | none => rw [follow_none h]; exact ⟨foundOf_len l nm tl, hn⟩
    | some r =>
      by_cases h2 : hasName names r.tgt = true ∨ 16 ≤ names.length
      · rw [follow_stop h h2]; exact ⟨Nat.zero_le _, Nat.zero_le _⟩
      · rw [follow_go h (by simpa using fun e => h2 (.inl e)) (fun e => h2 (.inr e))]
        exact ih _ _ _ (by simp; omega)
theorem follow_len1 (l : List Rec) (name : ByteArray) : (followOf l name).1.length ≤ l.length := (follow_lens l 16 [name] name _ (Nat.le_of_ble_eq_true rfl)).1
theorem follow_len2 (l : List Rec) (name : ByteArray) : (followOf l name).2.length ≤ 16 := (follow_lens l 16 [name] name _ (Nat.le_of_ble_eq_true rfl)).2
set_option maxRecDepth 8000 in
set_option maxHeartbeats 4000000 in
theorem tells_any (m : Msg) (l : List Rec) (name : ByteArray) (w : World) (hr : RecsAt w m.ans l) :
    Calls Try.prog 6 #[.agg m.cells, .string name] w fun e w' => e = .returned (.bool true) ∧ Below w.heap.size w w' := by
  have hmn : m.cells.size = 9 := rfl
  have hF1 : (followOf l name).1.length ≤ 9223372036854775807 := Nat.le_trans (follow_len1 l name) hr.2
  have hF2 : (followOf l name).2.length ≤ 9223372036854775807 := Nat.le_trans (follow_len2 l name) (by decide)
  have h6 : m.cells[6]? = some m.ans := rfl
  obtain ⟨A, c, hA⟩ := hr.1.len
  have hll := hr.2
  have hcell : (w.alloc (.cells m.cells 38)).cell? ⟨w.heap.size, 6, none⟩ = some (.slice A l.length c) := by rw [cell_new, h6, hA]
  generalize hM : m.cells = M at *
  have hS := (Sat.start w).alloc (.cells M 38)
  by_cases h1 : (80 : Int) < l.length
  · go_enter Try.func6, Try.ntmps6
    go_wp2_with fail
    refine (awake_any _).mono ?_
    rintro e w1 ⟨rfl, hb⟩
    go_wp2_with fail
    go_ret
    exact ⟨rfl, (hS.below_ hb).below⟩
  · have h1' : (l.length : Int) ≤ 80 := by omega
    by_cases h2 : (300 : Int) < name.size
    · go_enter Try.func6, Try.ntmps6
      go_wp2_with fail
      refine (awake_any _).mono ?_
      rintro e w1 ⟨rfl, hb⟩
      go_wp2_with fail
      go_ret
      exact ⟨rfl, (hS.below_ hb).below⟩
    · have h2' : (name.size : Int) ≤ 300 := by omega
      have hl1 : (Instr.loadAt 38 (.pointer (some ⟨w.heap.size, 0, none⟩))).run Try.prog (w.alloc (.cells M 38)) = .ok (.agg M) (w.alloc (.cells M 38)) := by
        have := run_loadAt_row (P := Try.prog) (cs := M.toList) (o := 0) hS.heap Try.underlying38 rfl (by rw [Array.length_toList, hmn]; kernel_rfl) (fun j u hu => by simpa using hu)
        simpa using this
      go_enter Try.func6, Try.ntmps6
      go_wp2_with (refine wpList_load_run (t := 38) rfl rfl rfl hl1 ?_)
      subst hM
      refine (follow_any m l name _ (hr.below hS.below) (by omega)).mono ?_
      rintro e w1 ⟨v1, v2, rfl, hF⟩
      have hS1 := hS.and hF
      clear hF hl1 hcell
      have hl2 : (Instr.loadAt 38 (.pointer (some ⟨w.heap.size, 0, none⟩))).run Try.prog w1 = .ok (.agg m.cells) w1 := by
        have := run_loadAt_row (P := Try.prog) (cs := m.cells.toList) (o := 0) hS1.drop.heap Try.underlying38 rfl (by rw [Array.length_toList, hmn]; kernel_rfl) (fun j u hu => by simpa using hu)
        simpa using this
      go_wp2_with (refine wpList_load_run (t := 38) rfl rfl rfl hl2 ?_)
      refine (ref_any m l name _ (hr.below hS1.below) (by omega)).mono ?_
      rintro e w2 ⟨v3, v4, rfl, hF⟩
      have hS2 := hS1.and hF
      have f1 : FndsAt w2 v1 (followOf l name).1 := FndsAt.below ⟨hS1.left.arr_reads, hF1⟩ hF.below
      have f3 : FndsAt w2 v3 (followOf l name).1 := ⟨hF.arr_reads, hF1⟩
      have f2 : NamesAt w2 v2 (followOf l name).2 := NamesAt.below ⟨by simpa using hS1.left.pull2.arr_reads, hF2⟩ hF.below
      have f4 : NamesAt w2 v4 (followOf l name).2 := ⟨by simpa using hF.pull2.arr_reads, hF2⟩
      clear hF hl2
      go_wp2_with fail
      refine (awake_any _).mono ?_
      rintro e w3 ⟨rfl, hb3⟩
      go_wp2_with fail
      refine (plainF_any _ _ _ _ _ (f1.below hb3) (f3.below hb3)).mono ?_
      rintro e w4 ⟨rfl, hb4⟩
      rw [sameOf_refl (fun x => by simp [eqF])]
      go_wp2_with fail
      refine (plainS_any _ _ _ _ _ ((f2.below hb3).below hb4) ((f4.below hb3).below hb4)).mono ?_
      rintro e w5 ⟨rfl, hb5⟩
      rw [sameOf_refl (fun x => by simp [eqS])]
      go_wp2_with fail
      go_ret
      exact ⟨rfl, (((hS2.below_ hb3).below_ hb4).below_ hb5).below⟩
end Go.Proofs.Ytepaanpdjadakaa
