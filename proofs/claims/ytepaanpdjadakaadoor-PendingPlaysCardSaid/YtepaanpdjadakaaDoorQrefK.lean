import Derived.Test.YtepaanpdjadakaaDoorQrefD
import Derived.Test.YtepaanpdjadakaaDoorKeepM
import Derived.Test.YtepaanpdjadakaaDoorKeepsA
/-! The reference's pending queries: Keep. -/
namespace Go.Proofs.YtepaanpdjadakaaDoor
open Go Go.RowKit

section
variable {B : Nat} {w0 w w' : World} {F : HP} {b : Nat} {n : Int} {R : List (Itm Qry)} {v u : Value}
theorem away_in (ss : List Adr) (x : Itm Qry) : away ss x = !ss.any fun b => decide (b = x.key.server) := by
  unfold away
  congr 2
  funext b
  by_cases e : b = x.key.server
  · simp [e]
  · have : ¬ x.key.server = b := fun h => e h.symm
    simp [e, this]
set_option maxRecDepth 8000 in
set_option maxHeartbeats 2000000 in
theorem qKeep_any (h : Sat B w0 w (qref b n R • F)) (hl : R.length ≤ 1000) (ss : List Adr) (v : Value) (hss : ss.length ≤ 1000) (hv : ∀ W G, Sat B w0 W (F • G) → RowsAt Adr.enc W v ss) : Calls Tryd.prog 52 #[.pointer (some ⟨b, 0, none⟩), v] w fun e w' => e = .returned (.int .i64 ((R.length : Int) - (R.filter fun x => !away ss x).length)) ∧ Sat B w0 w' (qref b n (R.filter fun x => !away ss x) • F) := by
  obtain ⟨As, cs, rfl⟩ := (hv w _ (h.to (by ac_rfl : _ = F • _))).form
  obtain ⟨A, c, A', c', hS0⟩ := h.qref_open
  have d0 : w.cell? ⟨b, 1, none⟩ = some (.slice A R.length c) := cell_heap hS0.heap rfl
  have HLL := Lib.hid hl
  clear hS0
  go_enter Tryd.func52, Tryd.ntmps52
  go_wp2_with fail
  go_loopw [5, 6] (fun s i wr => ∃ m : Nat, m ≤ R.length ∧ i = .int .i64 ((m : Int) - 1) ∧ s = .int .i64 (cntM (away ss) R m) ∧ Sat B w0 wr (qref b n (keepM (away ss) R m) • F)) (fun _ i _ => (intOf i + 1).toNat)
  case atStart => exact ⟨R.length, Nat.le_refl _, rfl, by rw [cntM_len], by rw [keepM_len]; exact h⟩
  case round =>
    clear d0 h
    obtain ⟨m, hm, rfl, rfl, hS⟩ := hrel
    rcases m with _ | k
    · have hneg : decide ((0 : Int) ≤ ((0 : Nat) : Int) - 1) = false := by decide
      rw [keepM_zero] at hS
      have hz := cntM_zero (p := away ss) (R := R)
      have HZ := Lib.hid hz
      clear hz
      go_wp2_with fail
      go_ret
      rw [HZ.out]
      exact ⟨rfl, hS⟩
    · have hk1 : ((k + 1 : Nat) : Int) - 1 = k := by omega
      rw [hk1]
      obtain ⟨x, hx⟩ : ∃ x, R[k]? = some x := ⟨_, List.getElem?_eq_getElem (by omega)⟩
      have hat := keepM_at (p := away ss) hx
      have hkl := (List.getElem?_eq_some_iff.1 hat).1
      have hle := keepM_le (p := away ss) (R := R) (k + 1)
      have hcb := cntM_le (p := away ss) hm
      obtain ⟨A, c, A', c', hS2⟩ := hS.qref_open
      obtain ⟨g, rfl, _, hc⟩ := hS2.pull2.arr_at keyC_length rfl hat
      have d1 : wr.cell? ⟨b, 1, none⟩ = some (.slice (some ⟨g, 0, none⟩) (keepM (away ss) R (k + 1)).length c) := cell_heap hS2.heap rfl
      have hld : (Instr.loadAt 63 (.pointer (some ⟨g, k * 40 + 17, none⟩))).run Tryd.prog wr = .ok (.agg x.key.server.enc.toArray) wr :=
        run_loadAt_cells Tryd.underlying63 rfl (by rw [Adr.enc_length]; kernel_rfl) (fun j u hu => by
          have hj : j < 17 := by have := (List.getElem?_eq_some_iff.1 hu).1; rwa [Adr.enc_length] at this
          rw [Addr.add_lit]
          have := hc (17 + j) u (by show x.key.enc[17 + j]? = some u; rw [x.key.at17 j hj]; exact hu)
          rw [Nat.add_assoc]
          exact this)
      have cI := aIn_any ss (.slice As ss.length cs) x.key.server (hv wr _ (hS.to (by ac_rfl : _ = F • _))) hss
      have cD := fun (W : World) (hW : Sat B w0 W (qref b n (keepM (away ss) R (k + 1)) • F)) => qDrop_any hW (by omega) hat
      clear hc
      have hpos : decide ((0 : Int) ≤ k) = true := decide_eq_true (by omega)
      cases hp : away ss x with
      | true =>
        simp only [keepM_hit hx hp] at cD
        have hct := cntM_hit hx hp
        have HP := Lib.hid hp
        have HCT := Lib.hid hct
        generalize cntM (away ss) R (k + 1) = ct at *
        generalize (keepM (away ss) R (k + 1)).length = kl at *
        have hkz : (k : Int) < kl := by omega
        clear hct hx hat hS2 hk1
        have hb := HP.out
        rw [away_in, Bool.not_eq_true'] at hb
        rw [hb] at cI
        clear hb
        go_wp2_with (refine wpList_load_run (t := 63) rfl rfl rfl hld ?_)
        refine cI.mono ?_
        rintro e w1 ⟨rfl, hb1⟩
        have cD := cD _ (hS.below_ hb1)
        clear cI hld hb1 hS
        go_wp2_with fail
        refine cD.mono ?_
        rintro e w2 ⟨rfl, hS3⟩
        clear cD
        go_wp2_with fail
        go_roundw
        case rel => exact ⟨k, by omega, by go_num, by rw [HCT.out], hS3⟩
        case measure => simp [intOf]
      | false =>
        have hS3 := hS
        rw [keepM_miss hx hp] at hS3
        have hct := cntM_miss hx hp
        have HP := Lib.hid hp
        have HCT := Lib.hid hct
        generalize cntM (away ss) R (k + 1) = ct at *
        generalize (keepM (away ss) R (k + 1)).length = kl at *
        have hkz : (k : Int) < kl := by omega
        clear hct hx hat hS2 cD hk1
        have hb := HP.out
        rw [away_in, Bool.not_eq_false'] at hb
        rw [hb] at cI
        clear hb
        go_wp2_with (refine wpList_load_run (t := 63) rfl rfl rfl hld ?_)
        refine cI.mono ?_
        rintro e w1 ⟨rfl, hb1⟩
        have hS3 := hS3.below_ hb1
        clear cI hld hb1 hS
        go_wp2_with fail
        go_roundw
        case rel => exact ⟨k, by omega, by go_num, by rw [HCT.out], hS3⟩
        case measure => simp [intOf]
end
end Go.Proofs.YtepaanpdjadakaaDoor
