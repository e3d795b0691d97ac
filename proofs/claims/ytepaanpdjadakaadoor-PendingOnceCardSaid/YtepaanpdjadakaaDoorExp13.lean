import Derived.Test.YtepaanpdjadakaaDoorExp12
/-! The queue's Due. -/
namespace Go.Proofs.YtepaanpdjadakaaDoor
open Go Go.RowKit

def lenV : Value → Nat
  | .slice _ n _ => n
  | _ => 0
theorem dueL_stop {k : Nat} {S : List Ent} {now : Int} (h : ∀ m, minE S = some m → now < m.due) : dueL k S now = ([], S) := by
  cases k with
  | zero => rfl
  | succ k =>
    rw [dueL]
    cases hm : minE S with
    | none => rfl
    | some m => simp only; rw [if_pos (h m hm)]
theorem dueL_go {k : Nat} {S : List Ent} {now : Int} {m : Ent} (hm : minE S = some m) (h : ¬ now < m.due) : dueL (k + 1) S now = (m :: (dueL k (without S m.id) now).1, (dueL k (without S m.id) now).2) := by
  rw [dueL, hm]; simp only; rw [if_neg h]
theorem dueL_fuel : ∀ (k j : Nat) (S : List Ent) (now : Int), S.length ≤ k → S.length ≤ j → dueL k S now = dueL j S now := by
  intro k
  induction k with
  | zero =>
    intro j S now hk hj
    obtain rfl : S = [] := List.eq_nil_of_length_eq_zero (by omega)
    rw [dueL_stop (by simp [minE]), dueL_stop (by simp [minE])]
  | succ k ih =>
    intro j S now hk hj
    by_cases hs : ∃ m, minE S = some m ∧ ¬ now < m.due
    · obtain ⟨m, hm, hd⟩ := hs
      have hl := without_lt (minE_mem hm).1
      cases j with
      | zero => omega
      | succ j => rw [dueL_go hm hd, dueL_go hm hd, ih j _ _ (by omega) (by omega)]
    · have : ∀ m, minE S = some m → now < m.due := fun m hm => by
        by_cases hd : now < m.due
        · exact hd
        · exact absurd ⟨m, hm, hd⟩ hs
      rw [dueL_stop this, dueL_stop this]
section
variable {B : Nat} {w0 w w' : World} {F : HP} {p q room : Nat} {L S : List Ent}
set_option maxRecDepth 8000 in
set_option maxHeartbeats 4000000 in
theorem qDue_any (h : Sat B w0 w (queue q room S ⋆ F)) (now : Int) : Calls Tryd.prog 23 #[.pointer (some ⟨q, 0, none⟩), .int .u64 now] w fun e w' =>
    ∃ v, e = .returned v ∧ Sat B w0 w' (arr 34 2 v (dueL S.length S now).1.length ((dueL S.length S now).1.flatMap Ent.enc) ⋆ queue q room (dueL S.length S now).2 ⋆ F) := by
  have hR : ∀ k, S.length ≤ k → (([] : List Ent) ++ (dueL k S now).1, (dueL k S now).2) = dueL S.length S now := by
    intro k hk; rw [dueL_fuel k S.length S now hk (Nat.le_refl _)]; rfl
  obtain ⟨hl1, hl2⟩ := h.queue_len
  generalize dueL S.length S now = R at *
  have HR := Lib.hid hR
  have hSl : S.length ≤ 1000 := by omega
  have hA := arr_nil (e := 34) (sz := 2) h
  clear hR h hl1 hl2
  have hst := ent_store
  have hld : ∀ (x : Ent) (W : World), (Instr.loadAt 34 (.pointer (some ⟨W.heap.size, 0, none⟩))).run Tryd.prog (W.alloc (.cells x.enc.toArray 34)) = .ok (.agg x.enc.toArray) (W.alloc (.cells x.enc.toArray 34)) :=
    fun x W => run_loadAt_row (heap_alloc_new _ _) Tryd.underlying34 rfl (by rw [Ent.enc_length]; kernel_rfl) (fun j u hu => by simpa using hu)
  go_enter Tryd.func23, Tryd.ntmps23
  go_wp2_with fail
  go_loopw [5] (fun v wr => ∃ (D S' : List Ent), D.length + S'.length ≤ 1000 ∧ Sat B w0 wr (arr 34 2 v D.length (D.flatMap Ent.enc) ⋆ queue q room S' ⋆ F) ∧ Hid (∀ k, S'.length ≤ k → (D ++ (dueL k S' now).1, (dueL k S' now).2) = R))
    (fun v _ => 2000 - lenV v)
  case atStart => exact ⟨[], S, by simpa using hSl, hA, HR⟩
  case round =>
    clear hA HR hSl
    obtain ⟨D, S', hDl, hS, HK⟩ := hrel
    obtain ⟨A, c, hv⟩ := hS.arr_form
    subst hv
    have c1 := qNext_any hS.pull2
    cases hm : minE S' with
    | none =>
      have hnv : nextV S' = .tuple #[.agg (Ent.enc ⟨0, 0⟩).toArray, .bool false] := by unfold nextV; rw [hm]
      rw [hnv] at c1
      have HE := Lib.hid ((Prod.ext_iff.1 (HK.out _ (Nat.le_refl _))))
      have HD := Lib.hid (dueL_stop (k := S'.length) (S := S') (now := now) (by rw [hm]; simp))
      clear hnv hm
      go_wp2_with fail
      refine c1.mono ?_
      rintro e w2 ⟨rfl, hb2⟩
      have hS2 := (hS.below_ hb2).alloc_ (.cells (Ent.enc ⟨0, 0⟩).toArray 34)
      clear c1 hS hb2
      go_wp2_with (refine wpList_store_run (t := 34) rfl rfl rfl rfl (hst ⟨0, 0⟩ _ _ rfl) ?_)
      go_ret
      refine ⟨_, rfl, ?_⟩
      obtain ⟨e1, e2⟩ := HE.out
      rw [HD.out, List.append_nil] at e1
      rw [HD.out] at e2
      rw [← e1, ← e2]
      exact hS2
    | some m =>
      have hnv : nextV S' = .tuple #[.agg m.enc.toArray, .bool true] := by unfold nextV; rw [hm]
      rw [hnv] at c1
      have d0 : ∀ W : World, (W.alloc (.cells m.enc.toArray 34)).cell? ⟨W.heap.size, 1, none⟩ = some (.int .u64 m.due) := fun W => by rw [cell_new]; rfl
      by_cases hd : now < m.due
      · have HE := Lib.hid ((Prod.ext_iff.1 (HK.out _ (Nat.le_refl _))))
        have HD := Lib.hid (dueL_stop (k := S'.length) (S := S') (now := now) (by intro x hx; rw [hm] at hx; cases hx; exact hd))
        clear hnv hm
        go_wp2_with fail
        refine c1.mono ?_
        rintro e w2 ⟨rfl, hb2⟩
        have hS2 := (hS.below_ hb2).alloc_ (.cells m.enc.toArray 34)
        have d1 := d0 w2
        clear c1 hS hb2 d0
        go_wp2_with (refine wpList_store_run (t := 34) rfl rfl rfl rfl (hst m _ _ rfl) ?_)
        go_ret
        refine ⟨_, rfl, ?_⟩
        obtain ⟨e1, e2⟩ := HE.out
        rw [HD.out, List.append_nil] at e1
        rw [HD.out] at e2
        rw [← e1, ← e2]
        exact hS2
      · have hd' : m.due ≤ now := by omega
        have HG := Lib.hid (fun k => dueL_go (k := k) hm hd)
        have hlt := without_lt (minE_mem hm).1
        have HM := Lib.hid hm
        clear hnv hm hd
        go_wp2_with fail
        refine c1.mono ?_
        rintro e w2 ⟨rfl, hb2⟩
        have hS2 := (hS.below_ hb2).alloc_ (.cells m.enc.toArray 34)
        have d1 := d0 w2
        have e1 : (w2.alloc (.cells m.enc.toArray 34)).heap.size = w2.heap.size + 1 := by simp
        have hS3 := hS2.alloc_ (.cells m.enc.toArray 34)
        have hrd : Reads ((w2.alloc (.cells m.enc.toArray 34)).alloc (.cells m.enc.toArray 34)) (.slice (some ⟨w2.heap.size + 1, 0, none⟩) 1 1) 1 m.enc := by rw [← e1]; exact reads_new
        obtain ⟨v5, w5, hrun, hS5⟩ := hS3.append (m := 1) (news := m.enc) (t := 30) (ty := 30) (P := Tryd.prog) (x := .slice (some ⟨w2.heap.size + 1, 0, none⟩) 1 1) Tryd.underlying30 entry_zero (by simp [Value.cells, Ent.enc_length]) (by decide) hrd (by rw [Ent.enc_length]) (Ent.enc_one _) (by unfold maxLen; omega) (by omega)
        obtain ⟨p, L, k1, k2, k3, k4, hSq⟩ := hS5.pull2.queue_open
        have d2 : w5.cell? ⟨q, 0, none⟩ = some (.pointer (some ⟨p, 0, none⟩)) := by simp only [World.cell?, hSq.heap]; rfl
        have hLl := k2.length_eq
        have c2 := hPop_any hSq.pull2 (m := L.length - 1) (by omega) (by omega)
        obtain ⟨f, hf⟩ := hSq.pull2.pile_idx
        obtain ⟨g1, g2, g3⟩ := k1.pop (by omega)
        have hg0 : Hp.g L 0 = m := by
          have := minE_heap k1 (by omega)
          rw [minE_perm k2, HM.out] at this
          exact (Option.some.inj this).symm
        rw [hg0] at g3
        have g4 := (without_of hf.nd g3).trans (without_perm k2 _)
        have G1 := Lib.hid (show Hp.Is (Hp.pop L) (Hp.pop L).length by rw [g2]; exact g1)
        have G4 := Lib.hid g4
        obtain ⟨A5, c5, rfl⟩ := hS5.arr_form
        clear c1 hS hb2 d0 hS2 hS3 hrd hf g1 g2 g3 g4 hg0 e1 hLl k1 k2
        go_wp2_with (refine wpList_store_run (t := 34) rfl rfl rfl rfl (hst m _ _ rfl) (stop_ ?_))
        unfold Stop
        go_wp2_with (refine wpList_load_run (t := 34) rfl rfl rfl (hld m _) (stop_ ?_))
        unfold Stop
        go_simp
        refine wpList_buildSlice_one (v := .agg m.enc.toArray) rfl rfl rfl Tryd.underlying30 entry_zero2 (by simp [Value.cells, Ent.enc_length]) (by decide) (by decide) ?_
        go_simp
        refine wpList_append_run rfl _ _ _ rfl rfl rfl hrun ?_
        go_wp2_with fail
        refine c2.mono ?_
        rintro e w6 ⟨⟨x, rfl⟩, hS6⟩
        clear c2 hSq hrun hS5
        go_wp2_with fail
        go_roundw
        case rel =>
          refine ⟨D ++ [m], without S' m.id, by rw [List.length_append, List.length_singleton]; omega, ?_, Lib.hid fun k hk => ?_⟩
          · have h7 := (Sat.queue_shut G1.out G4.out (by omega) k4 hS6.pull2).pull2
            rw [List.length_append, List.length_singleton, List.flatMap_append, List.flatMap_singleton]
            exact h7
          · have h8 := HK.out (S'.length + k) (by omega)
            have hs1 : S'.length + k = (S'.length + k - 1) + 1 := by omega
            rw [hs1, HG.out] at h8
            rw [dueL_fuel k (S'.length + k - 1) _ _ hk (by omega), List.append_assoc]
            exact h8
        case measure => simp [lenV]; omega
end
end Go.Proofs.YtepaanpdjadakaaDoor
