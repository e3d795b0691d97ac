import Derived.Test.YtepaanpdjadakaaGreatDoorSame
import Derived.Lib.Hide
import Derived.Deep.QuietTactic
import Derived.BigQuiet
import Derived.Test.YtepaanpdjadakaaGreatDoorFloB
/-! Two lists of one kind held against each other. -/
namespace Go.Proofs.YtepaanpdjadakaaGreatDoor
open Go Go.RowKit

set_option maxRecDepth 8000 in
set_option maxHeartbeats 1000000 in
theorem eqT_any (x y : Tup) (w : World) : Calls Tryz.prog 36 #[.agg (Tup.enc x).toArray, .agg (Tup.enc y).toArray] w fun e w' => e = .returned (.bool (eqD x y)) ∧ Below w.heap.size w w' := by
  unfold eqD
  have hS := ((Sat.start w).alloc (.cells (Tup.enc x).toArray 37)).alloc (.cells (Tup.enc y).toArray 37)
  have h1 : (Instr.loadAt 37 (.pointer (some ⟨w.heap.size, 0, none⟩))).run Tryz.prog _ = .ok (.agg (Tup.enc x).toArray) _ := run_loadAt_row hS.pull2.heap Tryz.underlying37 rfl (by rw [Tup.enc_length]; kernel_rfl) (fun j u hu => by simpa using hu)
  have h2 : (Instr.loadAt 37 (.pointer (some ⟨(w.alloc (.cells (Tup.enc x).toArray 37)).heap.size, 0, none⟩))).run Tryz.prog _ = .ok (.agg (Tup.enc y).toArray) _ := run_loadAt_row hS.heap Tryz.underlying37 rfl (by rw [Tup.enc_length]; kernel_rfl) (fun j u hu => by simpa using hu)
  rw [World.size_alloc] at h2
  have hB := hS.below
  have heq := fun w : World => (tup_eq 9996 x y : EqV Tryz.prog w 10000 37 _ _ (decide (x = y)))
  generalize (Tup.enc x).toArray = X at *
  generalize (Tup.enc y).toArray = Y at *
  generalize decide (x = y) = R at *
  go_enter Tryz.func36, Tryz.ntmps36
  go_wp2_with (first | (refine wpList_load_run (t := 37) rfl rfl rfl h1 ?_) | (refine wpList_load_run (t := 37) rfl rfl rfl h2 ?_) | (refine wpList_eql_run rfl rfl rfl rfl (by kernel_rfl) (heq _) ?_))
  go_ret
  exact ⟨rfl, hB⟩
attribute [local irreducible] wpOrd
set_option maxRecDepth 8000 in
set_option maxHeartbeats 2000000 in
theorem sameT_any (l m : List Tup) (v u : Value) (w : World) (hv : RowsAt Tup.enc w v l) (hu : RowsAt Tup.enc w u m) :
    Calls Tryz.prog 35 #[v, u, .func (.func 36) #[] #[]] w fun e w' => e = .returned (.bool (sameOf eqD l m)) ∧ Below w.heap.size w w' := by
  obtain ⟨A, c, rfl⟩ := hv.form
  obtain ⟨A', c', rfl⟩ := hu.form
  have hll := hv.2
  have hmm := hu.2
  unfold maxLen at hll hmm
  by_cases hlen : l.length = m.length
  · have hlen' : ((l.length : Int) != (m.length : Int)) = false := by simp [hlen]
    have hsl := @sameOf_drop _ (eqD (α := Tup)) l m
    generalize hR : sameOf eqD l m = R
    have hR0 : sameOf eqD (l.drop 0) (m.drop 0) = R := by simpa using hR
    have HR := Lib.hid hR0
    have HL := Lib.hid hlen
    clear hR hR0 hlen
    go_enter Tryz.func35, Tryz.ntmps35
    go_wp2_with fail
    go_loopw [7] (fun i wr => ∃ k : Nat, k ≤ l.length ∧ i = .int .i64 k ∧ Sat w.heap.size w wr emp ∧ Hid (sameOf eqD (l.drop k) (m.drop k) = R))
      (fun i _ => l.length - (intOf i).toNat)
    case atStart => exact ⟨0, Nat.zero_le _, rfl, Sat.start w, HR⟩
    case round =>
      obtain ⟨k, hk, rfl, hS, HD⟩ := hrel
      by_cases hlt : k < l.length
      · have hltm : k < m.length := by have := HL.out; omega
        obtain ⟨x, hxk⟩ : ∃ x, l[k]? = some x := ⟨_, List.getElem?_eq_getElem hlt⟩
        obtain ⟨y, hyk⟩ : ∃ y, m[k]? = some y := ⟨_, List.getElem?_eq_getElem hltm⟩
        have hv2 := hv.below hS.below
        have hu2 := hu.below hS.below
        obtain ⟨a, ca, hva⟩ := hv2.some_addr hxk
        obtain ⟨b, cb, hub⟩ := hu2.some_addr hyk
        cases hva
        cases hub
        have hdr := hsl hxk hyk
        have c1 := eqT_any x y
        have HXK := Lib.hid hxk
        have HYK := Lib.hid hyk
        clear hsl hxk hyk
        go_wp2_with fail
        refine wp_region_ord [(0, .pure), (1, .pure), (2, .pure), (3, .pure), (4, .quiet), (5, .pure), (6, .pure), (7, .pure), (8, .quiet), (9, .acts), (10, .pure)] (by kernel_rfl) (by kernel_rfl) (fun w' => Below wr.heap.size wr w') ((Sat.start wr).drew.below) ?_
        iterate 4 (refine ord_pure rfl rfl rfl (fun K' hK => ?_); go_big_quiet_op; refine hK _ ?_; clear hK K')
        refine ord_load (t := 37) rfl rfl rfl (p := .pointer (some (a.add (k * 37)))) (v := .agg (Tup.enc x).toArray) rfl (fun w' hC => RowsAt.agg_at Tryz.underlying37 rfl (by kernel_rfl) Tup.enc_length (hv2.below hC) HXK.out rfl) (fun K' hK => ?_)
        go_simp
        refine hK _ ?_
        clear hK K'
        iterate 3 (refine ord_pure rfl rfl rfl (fun K' hK => ?_); go_big_quiet_op; refine hK _ ?_; clear hK K')
        refine ord_load (t := 37) rfl rfl rfl (p := .pointer (some (b.add (k * 37)))) (v := .agg (Tup.enc y).toArray) rfl (fun w' hC => RowsAt.agg_at Tryz.underlying37 rfl (by kernel_rfl) Tup.enc_length (hu2.below hC) HYK.out rfl) (fun K' hK => ?_)
        go_simp
        refine hK _ ?_
        clear hK K'
        refine ord_acts rfl rfl (fun K' hK => ?_)
        go_simp
        refine (c1 _).mono ?_
        rintro e w2 ⟨rfl, hb2⟩
        have hS2 := hS.drew.below_ hb2
        refine hK _ _ ((Sat.start wr).drew.below_ hb2).below ?_
        clear hK K'
        go_simp
        iterate 1 (refine ord_pure rfl rfl rfl (fun K' hK => ?_); go_big_quiet_op; refine hK _ ?_; clear hK K')
        refine ord_nil ?_
        cases hq : eqD x y
        · rw [hq] at hdr
          have HF := Lib.hid (HD.out.symm.trans hdr)
          clear hdr hq HD c1
          go_wp2_with fail
          go_ret
          exact ⟨by rw [HF.out]; rfl, hS2.below⟩
        · rw [hq] at hdr
          have HF := Lib.hid (hdr.symm.trans HD.out)
          clear hdr hq HD c1
          go_wp2_with fail
          go_roundw
          case rel => exact ⟨k + 1, by omega, by go_num, hS2, Lib.hid (by simpa using HF.out)⟩
          case measure => simp [intOf]; omega
      · obtain rfl : k = l.length := by omega
        have HF : R = true := by have := HD.out; rw [List.drop_length, HL.out, List.drop_length] at this; simpa [sameOf] using this.symm
        subst HF
        go_wp2_with fail
        go_ret
        exact ⟨rfl, hS.below⟩
  · have hlen' : ((l.length : Int) != (m.length : Int)) = true := by simp; omega
    rw [sameOf_len hlen]
    go_enter Tryz.func35, Tryz.ntmps35
    go_wp2_with fail
    go_ret
    exact ⟨rfl, Below.refl _ _⟩
set_option maxHeartbeats 1000000 in
theorem plainT_any (l m : List Tup) (v u : Value) (w : World) (hv : RowsAt Tup.enc w v l) (hu : RowsAt Tup.enc w u m) :
    Calls Tryz.prog 12 #[v, u] w fun e w' => e = .returned (.bool (sameOf eqD l m)) ∧ Below w.heap.size w w' := by
  go_enter Tryz.func12, Tryz.ntmps12
  go_wp2_with fail
  refine (sameT_any l m v u _ hv hu).mono ?_
  rintro e w' ⟨rfl, hb⟩
  go_wp2_with fail
  go_ret
  exact ⟨rfl, hb⟩
end Go.Proofs.YtepaanpdjadakaaGreatDoor
