import Derived.Test.YtepaanpdjadakaaDoorOwn
import Derived.Test.YtepaanpdjadakaaDoorBase
/-! A copy of one's own of a slice of addresses is kept. -/
namespace Go.Proofs.YtepaanpdjadakaaDoor
open Go Go.RowKit

attribute [local irreducible] wpOrd
section
variable {P : Program} {w : World} {K : Act → World → Prop} {C : World → Prop} {a : Act} {i : Nat} {rest : List (Nat × How)} {o : Oper} {l : List Oper}
theorem ord_neq (hi : l[i]? = some o) (hw : Region.wanted o (yielded l.toArray a.tmps) = true) {t t' : TypeId} {x y : Operand} (ho : o.op = .binOp .neq t x y t') {xs ys : Array Value} {r : Bool} (hx : a.eval x = .agg xs) (hy : a.eval y = .agg ys)
    (hg : P.eqGuardType P.depth t = false) (hr : ∀ w', EqV P w' 10000 t (.agg xs) (.agg ys) r) (h : ∀ K' : Act → Prop, (∀ a, wpOrd P l.toArray K C rest a w → K' a) → K' (a.put o.dst (.bool (!r)))) : wpOrd P l.toArray K C ((i, .pure) :: rest) a w := by
  have hi' : l.toArray[i]? = some o := by simpa using hi
  unfold wpOrd
  simp only [hi', hw, if_true]
  refine ⟨.bool (!r), fun w' => ?_, h _ fun _ h => h⟩
  unfold execOp
  simp only [ho, hx, hy, Sem.run_bind, run_eqGuard_agg w' _ _ _ _ _ _ hg, Result.andThen_ok, run_neq_struct]
  rw [show (Op.equalIn 10000 t (.agg xs) (.agg ys)).run P w' = .ok r w' from hr w']
  rfl
end
section
variable {B : Nat} {w0 w w' : World} {F : HP}
theorem own_load {g k : Nat} {ss : List Adr} (hk : k < 3) (h : Sat B w0 w (own g ss 3 • F)) : (Instr.loadAt 63 (.pointer (some ⟨g, (ss.length + k) * 17, none⟩))).run Tryd.prog w = .ok (.agg fillA.enc.toArray) w := by
  refine run_loadAt_row (cs := fillA.enc) h.heap Tryd.underlying63 rfl (by rw [Adr.enc_length]; kernel_rfl) (fun j u hu => ?_)
  have hj : j < 17 := by have := (List.getElem?_eq_some_iff.1 hu).1; rwa [Adr.enc_length] at this
  have he : (ownL ss 3)[ss.length + k]? = some fillA := by
    unfold ownL
    rw [List.getElem?_append_right (by omega), Nat.add_sub_cancel_left, List.getElem?_append_left (by simpa using hk), List.getElem?_replicate, if_pos hk]
  have hg := flat_get Adr.enc_length (ownL ss 3) (ss.length + k) j fillA he hj
  rw [List.getElem?_toArray, hg]
  exact hu
set_option maxRecDepth 8000 in
set_option maxHeartbeats 4000000 in
theorem kept_any {g : Nat} (ss : List Adr) (h : Sat B w0 w (own g ss 3 • F)) (v : Value) (hv : RowsAt Adr.enc w v ss) (hl : ss.length ≤ 1000) :
    Calls Tryd.prog 53 #[.slice (some ⟨g, 0, none⟩) ss.length (ss.length + 3), v, .agg fillA.enc.toArray] w fun e w' => e = .returned (.bool true) ∧ Sat B w0 w' (own g ss 3 • F) := by
  obtain ⟨A, c, rfl⟩ := hv.form
  have hX := h.alloc (.cells fillA.enc.toArray 63)
  have hv2 : RowsAt Adr.enc (w.alloc (.cells fillA.enc.toArray 63)) (.slice A ss.length c) ss := hv.below ((Below.refl _ _).alloc (Nat.le_refl _) _)
  have c1 := plainA_any ss ss _ _ _ (hX.pull2.own_reads hl) hv2
  rw [sameOf_refl eqD_refl] at c1
  have hlf : ∀ W, W.heap[w.heap.size]? = some (.cells fillA.enc.toArray 63) → (Instr.loadAt 63 (.pointer (some ⟨w.heap.size, 0, none⟩))).run Tryd.prog W = .ok (.agg fillA.enc.toArray) W :=
    fun W h => run_loadAt_row h Tryd.underlying63 rfl (by rw [Adr.enc_length]; kernel_rfl) (fun j u hu => by simpa using hu)
  have hol := fun (k : Nat) (hk : k < 3) (W : World) (G : HP) (hW : Sat B w0 W (own g ss 3 • G)) => own_load hk hW
  have heq := fun (w : World) => (adr_eq 9997 fillA fillA : EqV Tryd.prog w 10000 63 _ _ (decide (fillA = fillA)))
  rw [show decide (fillA = fillA) = true by simp] at heq
  have HEQ := Lib.hid heq
  have HOL := Lib.hid hol
  have HLF := Lib.hid hlf
  clear heq hol hlf hv hv2 h
  generalize fillA.enc.toArray = Q0 at *
  generalize hn : ss.length = n at *
  have hcap2 : decide ((n : Int) + 3 < (n : Int) + 3) = false := by simp
  clear hn
  go_enter Tryd.func53, Tryd.ntmps53
  go_wp2_with fail
  refine c1.mono ?_
  rintro e w2 ⟨rfl, hb⟩
  have hS0 := hX.below_ hb
  clear c1 hX hb
  go_wp2_with fail
  go_loopw [8] (fun i wr => ∃ k : Nat, k ≤ 3 ∧ i = .int .i64 ((n + k : Nat) : Int) ∧ Sat B w0 wr (blk w.heap.size (.cells Q0 63) • own g ss 3 • F)) (fun i _ => n + 3 - (intOf i).toNat)
  case atStart => exact ⟨0, by omega, rfl, hS0⟩
  case round =>
    clear hS0
    obtain ⟨k, hk, rfl, hS⟩ := hrel
    by_cases hlt : k < 3
    · have hld := HOL.out k hlt
      obtain ⟨m, hm⟩ : ∃ m, n + k = m := ⟨_, rfl⟩
      rw [hm] at hld ⊢
      have HLD := Lib.hid hld
      clear hld
      have hltz : (m : Int) < (n : Int) + 3 := by omega
      go_wp2_with fail
      try go_frame
      refine wp_region_ord [(0, .pure), (1, .pure), (2, .pure), (3, .quiet), (4, .quiet), (5, .pure)] (by kernel_rfl) (by kernel_rfl)
        (fun w' => Sat B w0 w' (blk w.heap.size (.cells Q0 63) • own g ss 3 • F)) hS.drew ?_
      iterate 3 (refine ord_pure rfl rfl rfl (fun K' hK => ?_); go_big_quiet_op; refine hK _ ?_; clear hK K')
      refine ord_load (t := 63) rfl rfl rfl (p := .pointer (some ⟨g, m * 17, none⟩)) (v := .agg Q0) rfl (fun w' hC => HLD.out _ _ hC.pull2) (fun K' hK => ?_)
      go_simp
      refine hK _ ?_
      clear hK K'
      refine ord_load (t := 63) rfl rfl rfl (p := .pointer (some ⟨w.heap.size, 0, none⟩)) (v := .agg Q0) rfl (fun w' hC => HLF.out _ hC.heap) (fun K' hK => ?_)
      go_simp
      refine hK _ ?_
      clear hK K'
      refine ord_neq rfl rfl rfl rfl rfl (by kernel_rfl) (fun w' => HEQ.out w') (fun K' hK => ?_)
      go_simp
      refine hK _ ?_
      clear hK K'
      refine ord_nil ?_
      go_wp2_with fail
      go_roundw
      case rel => exact ⟨k + 1, by omega, by rw [← Nat.add_assoc, hm]; go_num, hS.drew⟩
      case measure => simp [intOf]; omega
    · obtain rfl : k = 3 := by omega
      have hltz : ¬ ((n + 3 : Nat) : Int) < (n : Int) + 3 := by omega
      go_wp2_with fail
      go_ret
      exact ⟨rfl, hS.drop⟩
end
end Go.Proofs.YtepaanpdjadakaaDoor
