import Derived.Test.YtepaanpdjadakaaDoorQrefD
import Derived.Test.YtepaanpdjadakaaDoorKeepM
/-! The reference's pending queries: Take, Expire. -/
namespace Go.Proofs.YtepaanpdjadakaaDoor
open Go Go.RowKit

section
variable {B : Nat} {w0 w w' : World} {F : HP} {b : Nat} {n : Int} {R : List (Itm Qry)} {v u : Value}
set_option maxRecDepth 8000 in
set_option maxHeartbeats 1000000 in
theorem qTake_any (h : Sat B w0 w (qref b n R • F)) (hl : R.length ≤ 1000) (hn : (R.map (·.key)).Nodup) (q : Qry) : Calls Tryd.prog 49 #[.pointer (some ⟨b, 0, none⟩), .agg q.enc.toArray] w fun e w' => e = .returned (.bool (R.any (isQ q))) ∧ Sat B w0 w' (qref b n (R.filter fun x => !isQ q x) • F) := by
  have hX := h.alloc (.cells q.enc.toArray 67)
  have hlq := run_loadAt_row (P := Tryd.prog) (o := 0) (ty := 67) (cs := q.enc) hX.heap Tryd.underlying67 rfl (by rw [Qry.enc_length]; kernel_rfl) (fun j u hu => by simpa using hu)
  have c1 := qPlace_any hX.pull2 hl q
  have hpl := plc_any (isQ q) R
  rcases plc_cases (isQ q) R with ⟨h1, h2⟩ | ⟨k, x, h1, h2, h3, _⟩
  · rw [h1] at c1 hpl
    have ha : R.any (isQ q) = false := by
      cases hc : R.any (isQ q) with
      | true => exact absurd (hpl.2 hc) (by decide)
      | false => rfl
    have hf : (R.filter fun x => !isQ q x) = R := by
      rw [List.filter_eq_self]
      intro x hx
      rw [List.any_eq_false] at ha
      have := ha x hx
      simpa using this
    rw [ha, hf]
    generalize hQ : q.enc.toArray = Q0 at *
    clear hQ h hX hpl h1 h2 ha hf
    go_enter Tryd.func49, Tryd.ntmps49
    go_wp2_with (refine wpList_load_run (t := 67) rfl rfl rfl hlq ?_)
    refine c1.mono ?_
    rintro e w1 ⟨rfl, hS⟩
    go_wp2_with fail
    go_ret
    exact ⟨rfl, hS.pull2.drop⟩
  · rw [h3] at c1
    have ha : R.any (isQ q) = true := by rw [List.any_eq_true]; exact ⟨x, List.mem_of_getElem? h1, h2⟩
    have hf := cut_filter (key := fun x : Itm Qry => x.key) hn h1
    have hx : x.key = q := of_decide_eq_true h2
    rw [hx] at hf
    rw [ha]
    have hkl := (List.getElem?_eq_some_iff.1 h1).1
    have HF := Lib.hid (show R.take k ++ R.drop (k + 1) = R.filter fun x => !isQ q x from hf)
    have H1 := Lib.hid h1
    have HLL := Lib.hid hl
    generalize hQ : q.enc.toArray = Q0 at *
    clear hQ h hX hpl h1 h2 ha hf h3 hx hn
    go_enter Tryd.func49, Tryd.ntmps49
    go_wp2_with (refine wpList_load_run (t := 67) rfl rfl rfl hlq ?_)
    refine c1.mono ?_
    rintro e w1 ⟨rfl, hS⟩
    have c2 := qDrop_any hS HLL.out H1.out
    rw [HF.out] at c2
    clear c1 hS hlq
    go_wp2_with fail
    refine c2.mono ?_
    rintro e w2 ⟨rfl, hS2⟩
    clear c2
    go_wp2_with fail
    go_ret
    exact ⟨rfl, hS2.pull2.drop⟩
set_option maxRecDepth 8000 in
set_option maxHeartbeats 2000000 in
theorem qExpire_any (h : Sat B w0 w (qref b n R • F)) (hl : R.length ≤ 1000) (now : Int) : Calls Tryd.prog 50 #[.pointer (some ⟨b, 0, none⟩), .int .u64 now] w fun e w' => e = .returned (.int .i64 ((R.length : Int) - (R.filter fun x => !late now x).length)) ∧ Sat B w0 w' (qref b n (R.filter fun x => !late now x) • F) := by
  obtain ⟨A, c, A', c', hS0⟩ := h.qref_open
  have d0 : w.cell? ⟨b, 1, none⟩ = some (.slice A R.length c) := cell_heap hS0.heap rfl
  have HLL := Lib.hid hl
  clear hS0
  go_enter Tryd.func50, Tryd.ntmps50
  go_wp2_with fail
  go_loopw [5, 6] (fun s i wr => ∃ m : Nat, m ≤ R.length ∧ i = .int .i64 ((m : Int) - 1) ∧ s = .int .i64 (cntM (late now) R m) ∧ Sat B w0 wr (qref b n (keepM (late now) R m) • F)) (fun _ i _ => (intOf i + 1).toNat)
  case atStart => exact ⟨R.length, Nat.le_refl _, rfl, by rw [cntM_len], by rw [keepM_len]; exact h⟩
  case round =>
    clear d0 h
    obtain ⟨m, hm, rfl, rfl, hS⟩ := hrel
    rcases m with _ | k
    · have hneg : decide ((0 : Int) ≤ ((0 : Nat) : Int) - 1) = false := by decide
      rw [keepM_zero] at hS
      have hz := cntM_zero (p := late now) (R := R)
      have HZ := Lib.hid hz
      clear hz
      go_wp2_with fail
      go_ret
      rw [HZ.out]
      exact ⟨rfl, hS⟩
    · have hk1 : ((k + 1 : Nat) : Int) - 1 = k := by omega
      rw [hk1]
      obtain ⟨x, hx⟩ : ∃ x, R[k]? = some x := ⟨_, List.getElem?_eq_getElem (by omega)⟩
      have hat := keepM_at (p := late now) hx
      have hkl := (List.getElem?_eq_some_iff.1 hat).1
      have hle := keepM_le (p := late now) (R := R) (k + 1)
      have hcb := cntM_le (p := late now) hm
      have cD := qDrop_any hS (by omega) hat
      obtain ⟨A, c, A', c', hS2⟩ := hS.qref_open
      obtain ⟨g', rfl, _, hc⟩ := hS2.pull3.arr_at dueC_length rfl hat
      have d1 : wr.cell? ⟨b, 2, none⟩ = some (.slice (some ⟨g', 0, none⟩) (keepM (late now) R (k + 1)).length c') := cell_heap hS2.heap rfl
      have d2 := hc 0 _ rfl
      rw [Nat.mul_one, Nat.add_zero] at d2
      clear hc
      have hpos : decide ((0 : Int) ≤ k) = true := decide_eq_true (by omega)
      cases hp : late now x with
      | true =>
        rw [keepM_hit hx hp] at cD
        have hct := cntM_hit hx hp
        have HP := Lib.hid hp
        have HCT := Lib.hid hct
        generalize cntM (late now) R (k + 1) = ct at *
        generalize (keepM (late now) R (k + 1)).length = kl at *
        have hkz : (k : Int) < kl := by omega
        clear hct hx hat hS2 hk1
        have hb := HP.out
        unfold late at hb
        go_wp2_with fail
        clear hb hS
        refine cD.mono ?_
        rintro e w2 ⟨rfl, hS3⟩
        clear cD
        go_wp2_with fail
        go_roundw
        case rel => exact ⟨k, by omega, by go_num, by rw [HCT.out], hS3⟩
        case measure => simp [intOf]
      | false =>
        have hS3 := hS
        rw [keepM_miss hx hp] at hS3
        have hct := cntM_miss hx hp
        have HP := Lib.hid hp
        have HCT := Lib.hid hct
        generalize cntM (late now) R (k + 1) = ct at *
        generalize (keepM (late now) R (k + 1)).length = kl at *
        have hkz : (k : Int) < kl := by omega
        clear hct hx hat hS2 cD hk1
        have hb := HP.out
        unfold late at hb
        go_wp2_with fail
        go_roundw
        case rel => exact ⟨k, by omega, by go_num, by rw [HCT.out], hS3⟩
        case measure => simp [intOf]
end
end Go.Proofs.YtepaanpdjadakaaDoor
