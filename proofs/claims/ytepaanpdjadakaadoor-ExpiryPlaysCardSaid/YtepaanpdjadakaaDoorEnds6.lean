import Derived.Test.YtepaanpdjadakaaDoorArr2
import Derived.Test.YtepaanpdjadakaaDoorExp8
import Derived.Test.YtepaanpdjadakaaDoorEnds3
import Derived.Test.YtepaanpdjadakaaDoorEnds5
import Derived.Test.YtepaanpdjadakaaDoorBase
/-! The reference: Due. -/
namespace Go.Proofs.YtepaanpdjadakaaDoor
open Go Go.RowKit

attribute [local irreducible] wpOrd
section
variable {B : Nat} {w0 w w' : World} {F : HP} {b : Nat} {n : Int} {S : List Ent} {v : Value}
set_option maxRecDepth 8000 in
set_option maxHeartbeats 4000000 in
theorem eDue_any (h : Sat B w0 w (ends b n S • F)) (hl : S.length ≤ 1000) (hn : Nd S) (now : Int) : Calls Tryd.prog 34 #[.pointer (some ⟨b, 0, none⟩), .int .u64 now] w fun e w' =>
    ∃ v, e = .returned v ∧ Sat B w0 w' (arr 34 2 v (dueL S.length S now).1.length ((dueL S.length S now).1.flatMap Ent.enc) • ends b n (dueL S.length S now).2 • F) := by
  have hR : ∀ k, S.length ≤ k → (([] : List Ent) ++ (dueL k S now).1, (dueL k S now).2) = dueL S.length S now := by
    intro k hk; rw [dueL_fuel k S.length S now hk (Nat.le_refl _)]; rfl
  generalize dueL S.length S now = R at *
  have HR := Lib.hid hR
  have hA := arr_nil (e := 34) (sz := 2) h
  clear hR h
  have hst := ent_store
  have hld : ∀ (x : Ent) (W : World), (Instr.loadAt 34 (.pointer (some ⟨W.heap.size, 0, none⟩))).run Tryd.prog (W.alloc (.cells x.enc.toArray 34)) = .ok (.agg x.enc.toArray) (W.alloc (.cells x.enc.toArray 34)) :=
    fun x W => run_loadAt_row (heap_alloc_new _ _) Tryd.underlying34 rfl (by rw [Ent.enc_length]; kernel_rfl) (fun j u hu => by simpa using hu)
  go_enter Tryd.func34, Tryd.ntmps34
  go_wp2_with fail
  go_loopw [5] (fun v wr => ∃ (D S' : List Ent), D.length + S'.length ≤ 1000 ∧ Sat B w0 wr (arr 34 2 v D.length (D.flatMap Ent.enc) • ends b n S' • F) ∧ Hid (Nd S' ∧ ∀ k, S'.length ≤ k → (D ++ (dueL k S' now).1, (dueL k S' now).2) = R))
    (fun v _ => 2000 - lenV v)
  case atStart => exact ⟨[], S, by simpa using hl, hA, Lib.hid ⟨hn, HR.out⟩⟩
  case round =>
    clear hA HR hl hn
    obtain ⟨D, S', hDl, hS, HK⟩ := hrel
    obtain ⟨A, c, hv⟩ := hS.arr_form
    subst hv
    have c1 := eNext_any hS.pull2 (by omega)
    cases hm : minE S' with
    | none =>
      have hnv : nextV S' = .tuple #[.agg (Ent.enc ⟨0, 0⟩).toArray, .bool false] := by unfold nextV; rw [hm]
      rw [hnv] at c1
      have HE := Lib.hid ((Prod.ext_iff.1 (HK.out.2 _ (Nat.le_refl _))))
      have HD := Lib.hid (dueL_stop (k := S'.length) (S := S') (now := now) (by rw [hm]; simp))
      clear hnv hm hS
      go_wp2_with fail
      refine c1.mono ?_
      rintro e w2 ⟨rfl, hS1⟩
      have hS2 := hS1.pull2.alloc_ (.cells (Ent.enc ⟨0, 0⟩).toArray 34)
      clear c1 hS1
      go_wp2_with (refine wpList_store_run (t := 34) rfl rfl rfl rfl (hst ⟨0, 0⟩ _ _ rfl) ?_)
      go_ret
      refine ⟨_, rfl, ?_⟩
      obtain ⟨e1, e2⟩ := HE.out
      rw [HD.out, List.append_nil] at e1
      rw [HD.out] at e2
      rw [← e1, ← e2]
      exact hS2
    | some m =>
      have hnv : nextV S' = .tuple #[.agg m.enc.toArray, .bool true] := by unfold nextV; rw [hm]
      rw [hnv] at c1
      have d0 : ∀ W : World, (W.alloc (.cells m.enc.toArray 34)).cell? ⟨W.heap.size, 1, none⟩ = some (.int .u64 m.due) := fun W => by rw [cell_new]; rfl
      have d00 : ∀ W : World, (W.alloc (.cells m.enc.toArray 34)).cell? ⟨W.heap.size, 0, none⟩ = some (.int .i64 m.id) := fun W => by rw [cell_new]; rfl
      by_cases hd : now < m.due
      · have HE := Lib.hid ((Prod.ext_iff.1 (HK.out.2 _ (Nat.le_refl _))))
        have HD := Lib.hid (dueL_stop (k := S'.length) (S := S') (now := now) (by intro x hx; rw [hm] at hx; cases hx; exact hd))
        clear hnv hm hS
        go_wp2_with fail
        refine c1.mono ?_
        rintro e w2 ⟨rfl, hS1⟩
        have hS2 := hS1.pull2.alloc_ (.cells m.enc.toArray 34)
        have d1 := d0 w2
        clear c1 hS1 d0 d00
        go_wp2_with (refine wpList_store_run (t := 34) rfl rfl rfl rfl (hst m _ _ rfl) ?_)
        go_ret
        refine ⟨_, rfl, ?_⟩
        obtain ⟨e1, e2⟩ := HE.out
        rw [HD.out, List.append_nil] at e1
        rw [HD.out] at e2
        rw [← e1, ← e2]
        exact hS2
      · have hd' : m.due ≤ now := by omega
        have HG := Lib.hid (fun k => dueL_go (k := k) hm hd)
        have hlt := without_lt (minE_mem hm).1
        have hhas : hasId S' m.id = true := by unfold hasId; rw [List.any_eq_true]; exact ⟨m, (minE_mem hm).1, by simp⟩
        have HH := Lib.hid (noneC_yes hhas)
        clear hnv hm hd hhas hS
        go_wp2_with fail
        refine c1.mono ?_
        rintro e w2 ⟨rfl, hS1⟩
        have hS2 := hS1.pull2.alloc (.cells m.enc.toArray 34)
        have d1 := d0 w2
        have d11 := d00 w2
        have c2 := eCancel_any (hS2.pull3) (by omega) HK.out.1 m.id
        rw [HH.out] at c2
        clear c1 hS1 d0 d00
        go_wp2_with (refine wpList_store_run (t := 34) rfl rfl rfl rfl (hst m _ _ rfl) (stop_ ?_))
        unfold Stop
        go_wp2_with fail
        refine c2.mono ?_
        rintro e w5 ⟨rfl, hS5⟩
        have hl5 := run_loadAt_row (P := Tryd.prog) (o := 0) (ty := 34) (cs := m.enc) hS5.pull2.heap Tryd.underlying34 rfl (by rw [Ent.enc_length]; kernel_rfl) (fun j u hu => by simpa using hu)
        have hS6 := (hS5.pull3).alloc_ (.cells m.enc.toArray 34)
        obtain ⟨v5, w6, hrun, hS7⟩ := hS6.append (m := 1) (news := m.enc) (t := 30) (ty := 30) (P := Tryd.prog) (x := .slice (some ⟨w5.heap.size, 0, none⟩) 1 1) Tryd.underlying30 entry_zero' (by simp [Value.cells]) (by decide) reads_new (by rw [Ent.enc_length]) (Ent.enc_one _) (by unfold maxLen; omega) (by omega)
        obtain ⟨A5, c5, rfl⟩ := hS7.arr_form
        clear c2 hS2 hS5 hS6 d1 d11
        go_wp2_with (refine wpList_load_run (t := 34) rfl rfl rfl hl5 (stop_ ?_))
        unfold Stop
        go_simp
        refine wpList_buildSlice_one (v := .agg m.enc.toArray) rfl rfl rfl Tryd.underlying30 entry_zero2' (by simp [Value.cells, Ent.enc_length]) (by decide) (by decide) ?_
        go_simp
        refine wpList_append_run rfl _ _ _ rfl rfl rfl hrun ?_
        go_wp2_with fail
        go_roundw
        case rel =>
          refine ⟨D ++ [m], without S' m.id, by rw [List.length_append, List.length_singleton]; omega, ?_, Lib.hid ⟨HK.out.1.without _, fun k hk => ?_⟩⟩
          · rw [List.length_append, List.length_singleton, List.flatMap_append, List.flatMap_singleton]
            exact (hS7.to (by ac_rfl : _ = blk w2.heap.size (.cells m.enc.toArray 34) • arr 34 2 (.slice A5 (D.length + 1) c5) (D.length + 1) (D.flatMap Ent.enc ++ m.enc) • ends b n (without S' m.id) • F)).drop
          · have h8 := HK.out.2 (S'.length + k) (by omega)
            have hs1 : S'.length + k = (S'.length + k - 1) + 1 := by omega
            rw [hs1, HG.out] at h8
            rw [dueL_fuel k (S'.length + k - 1) _ _ hk (by omega), List.append_assoc]
            exact h8
        case measure => simp [lenV]; omega
end
end Go.Proofs.YtepaanpdjadakaaDoor
