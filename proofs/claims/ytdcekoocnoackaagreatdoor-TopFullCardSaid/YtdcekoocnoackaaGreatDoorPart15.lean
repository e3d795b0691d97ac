import Derived.Test.YtdcekoocnoackaaGreatDoorPart14
import Derived.Test.YtdcekoocnoackaaGreatDoorPart04
import Derived.Deep.Cut
import Derived.Test.YtdcekoocnoackaaGreatDoorPart13
import Derived.Test.YtdcekoocnoackaaGreatDoorPart11
import Derived.Test.YtdcekoocnoackaaGreatDoorProg
import Derived.KernelRfl
import Derived.WalkKit
import Derived.Lib.Hide

/-! slices.IndexFunc, slices.ContainsFunc at bytes, of a predicate that turns nothing. -/
namespace Go.Proofs.YtdcekoocnoackaaGreatDoor
open Go Go.RowKit

section
variable {w : World} {p : Int → Bool} {bs : List Int} {gn g o cap : Nat} {lb : Array Value}
set_option maxRecDepth 8000 in
set_option maxHeartbeats 2000000 in
theorem indexB_any (eg : ∀ args w, (callFunc gn args).run Tryz.prog w = .ok (.enter gn args) w) (hn : bs.length ≤ 1000)
    (hc : ∀ j b, bs[j]? = some b → w.cell? ⟨g, o + j, none⟩ = some (.int .u8 b))
    (hp : ∀ b W, b ∈ bs → Calls Tryz.prog gn (#[.int .u8 b] ++ lb) W fun e w' => e = .returned (.bool (p b)) ∧ Below W.heap.size W w') :
    Calls Tryz.prog 255 #[.slice (some ⟨g, o, none⟩) bs.length cap, .func (.func gn) #[] lb] w fun e w' => e = .returned (.int .i64 (plc p bs)) ∧ Below w.heap.size w w' := by
  have HP := Lib.hid hp
  have HC := Lib.hid hc
  clear hp hc
  go_enter Tryz.func255, Tryz.ntmps255
  go_wp2_with fail
  go_loopw [5, 8] (fun _ s wr => ∃ k : Nat, k ≤ bs.length ∧ s = .int .i64 k ∧ Below w.heap.size w wr ∧ Hid (∀ j y, j < k → bs[j]? = some y → p y = false)) (fun _ s _ => bs.length - (intOf s).toNat)
  case atStart => exact ⟨0, Nat.zero_le _, rfl, Below.refl _ _, Lib.hid fun j y hj => absurd hj (Nat.not_lt_zero _)⟩
  case round =>
    obtain ⟨k, hk, rfl, hB, HK⟩ := hrel
    by_cases hlt : k < bs.length
    · obtain ⟨x, hxk⟩ : ∃ x, bs[k]? = some x := ⟨_, List.getElem?_eq_getElem hlt⟩
      have h0 := HC.out k x hxk
      have d0 : wr.cell? ⟨g, o + k, none⟩ = some (.int .u8 x) := by rw [hB.cell (World.block_lt_of_cell? _ _ h0)]; exact h0
      have hcall := HP.out x wr (List.mem_of_getElem? hxk)
      have hltz : (k : Int) < bs.length := by omega
      have HX := Lib.hid hxk
      clear hxk h0
      cases hq : p x with
      | true =>
        rw [hq] at hcall
        have HQ := Lib.hid hq
        clear hq
        go_wp2_with (go_at_fn gn; refine hcall.mono ?_; rintro e w2 ⟨rfl, hB2⟩)
        go_ret
        rw [plc_hit HX.out HQ.out HK.out]
        exact ⟨rfl, hB.trans (hB2.mono hB.size)⟩
      | false =>
        rw [hq] at hcall
        have HQ := Lib.hid hq
        clear hq
        go_wp2_with (go_at_fn gn; refine hcall.mono ?_; rintro e w2 ⟨rfl, hB2⟩)
        go_roundw
        case rel => exact ⟨k + 1, by omega, by go_num, hB.trans (hB2.mono hB.size), Lib.hid (plc_next HK.out HX.out HQ.out)⟩
        case measure => simp [intOf]; omega
    · obtain rfl : k = bs.length := by omega
      go_wp2_with fail
      go_ret
      rw [plc_done HK.out (Nat.le_refl _)]
      exact ⟨rfl, hB⟩
set_option maxRecDepth 8000 in
set_option maxHeartbeats 1000000 in
theorem hasB_any (eg : ∀ args w, (callFunc gn args).run Tryz.prog w = .ok (.enter gn args) w) (hn : bs.length ≤ 1000)
    (hc : ∀ j b, bs[j]? = some b → w.cell? ⟨g, o + j, none⟩ = some (.int .u8 b))
    (hp : ∀ b W, b ∈ bs → Calls Tryz.prog gn (#[.int .u8 b] ++ lb) W fun e w' => e = .returned (.bool (p b)) ∧ Below W.heap.size W w') :
    Calls Tryz.prog 197 #[.slice (some ⟨g, o, none⟩) bs.length cap, .func (.func gn) #[] lb] w fun e w' => e = .returned (.bool (bs.any p)) ∧ Below w.heap.size w w' := by
  have c1 := indexB_any (cap := cap) eg hn hc hp
  have hq : decide ((0 : Int) ≤ plc p bs) = bs.any p := by
    rcases plc_cases p bs with ⟨e1, hno⟩ | ⟨k, x, hx, hpx, e1, _⟩
    · rw [e1, List.any_eq_false.2 (fun x hx => by rw [hno x hx]; exact Bool.false_ne_true)]; rfl
    · rw [e1, List.any_eq_true.2 ⟨x, List.mem_of_getElem? hx, hpx⟩]; simp
  generalize plc p bs = r at *
  rw [← hq]
  clear hq hp hc hn
  go_enter Tryz.func197, Tryz.ntmps197
  go_wp2_with fail
  refine c1.mono ?_
  rintro e w1 ⟨rfl, hb⟩
  go_wp2_with fail
  go_ret
  exact ⟨rfl, hb⟩
end
end Go.Proofs.YtdcekoocnoackaaGreatDoor

/-! Guarded loads that are wanted. -/
namespace Go.Proofs.YtdcekoocnoackaaGreatDoor
open Go Go.RowKit
theorem wpList_load_w {P : Program} {w : World} {ops : Array Oper} {rest : List Oper} {o : Oper} {a : Act} {Q : Exit → Act → World → Prop} (hw : Region.wanted o (yielded ops a.tmps) = true) {t : TypeId} {x : Operand} (ho : o.op = .load t x) {p v : Value} (hx : a.eval x = p)
    (hr : (Instr.loadAt t p).run P w = .ok v w) (h : wpList P ops Q rest (a.put o.dst v) w) : wpList P ops Q (o :: rest) a w :=
  BigFrame.wpList_want hw fun _ hK => wp_load_run ho hx hr (hK _ _ h)
end Go.Proofs.YtdcekoocnoackaaGreatDoor

/-! addr.plain, addr.Parse at the addresses of the text. -/
namespace Go.Proofs.YtdcekoocnoackaaGreatDoor
open Go Go.RowKit

set_option maxRecDepth 8000 in
theorem aplain_nil (w : World) (hE : Et w) : Calls Tryz.prog 249 #[.nilIface] w fun e w' => e = .returned .nilIface ∧ Below w.heap.size w w' := by
  have c1 := is_nil 16 w
  have c2 := code_any 0 w hE
  rw [show errV 0 = .nilIface from rfl] at c2
  go_enter Tryz.func249, Tryz.ntmps249
  go_wp2_with fail
  refine c1.mono ?_
  rintro e w1 ⟨rfl, rfl⟩
  go_wp2_with fail
  refine c2.mono ?_
  rintro e w2 ⟨rfl, hb⟩
  go_wp2_with fail
  go_ret
  exact ⟨rfl, hb⟩
/-- BEGIN -/
theorem nocolon_n : decide (0 ≤ Lib.indexByte (⟨#[57, 46, 57, 46, 57, 46, 57]⟩ : ByteArray).data.toList 58) = false := by decide
attribute [local irreducible] wpOrd
set_option maxRecDepth 8000 in
set_option maxHeartbeats 2000000 in
theorem aparse_n (w : World) (hm : Mx w) (hE : Et w) : Calls Tryz.prog 188 #[.string ⟨#[57, 46, 57, 46, 57, 46, 57]⟩] w fun e w' => e = .returned (.tuple #[.agg #[.bool false, .int .u8 9, .int .u8 9, .int .u8 9, .int .u8 9, .int .u8 0, .int .u8 0, .int .u8 0, .int .u8 0, .int .u8 0, .int .u8 0, .int .u8 0, .int .u8 0, .int .u8 0, .int .u8 0, .int .u8 0, .int .u8 0], .nilIface]) ∧ Below w.heap.size w w' := by
  have c1 := fun W => Tryz.strings_Contains_one ⟨#[57, 46, 57, 46, 57, 46, 57]⟩ 58 W
  rw [nocolon_n] at c1
  have hS1 := (Sat.start w).alloc (.cells #[.bool false, .int .u8 0, .int .u8 0, .int .u8 0, .int .u8 0, .int .u8 0, .int .u8 0, .int .u8 0, .int .u8 0, .int .u8 0, .int .u8 0, .int .u8 0, .int .u8 0, .int .u8 0, .int .u8 0, .int .u8 0, .int .u8 0] 36)
  have hm1 := hm.below hS1.below
  have hE1 := hE.below hS1.below
  have c2 := four_n _ hm1
  generalize hq : w.heap.size = q at *
  go_enter Tryz.func188, Tryz.ntmps188
  go_wp2_with fail
  refine (c1 _).mono ?_
  rintro e w1 ⟨rfl, rfl⟩
  go_wp2_with fail
  refine c2.mono ?_
  rintro e w2 ⟨rfl, hb2⟩
  have hS2 := (hS1.below_ hb2).alloc (.cells #[.bool false, .int .u8 9, .int .u8 9, .int .u8 9, .int .u8 9, .int .u8 0, .int .u8 0, .int .u8 0, .int .u8 0, .int .u8 0, .int .u8 0, .int .u8 0, .int .u8 0, .int .u8 0, .int .u8 0, .int .u8 0, .int .u8 0] 36)
  have hE2 := (hE1.below hb2).below ((Below.refl _ _).alloc (Nat.le_refl _) (.cells #[.bool false, .int .u8 9, .int .u8 9, .int .u8 9, .int .u8 9, .int .u8 0, .int .u8 0, .int .u8 0, .int .u8 0, .int .u8 0, .int .u8 0, .int .u8 0, .int .u8 0, .int .u8 0, .int .u8 0, .int .u8 0, .int .u8 0] 36))
  have hst : ∀ z : Array Value, z.size = 17 → (Instr.storeAt 36 (.pointer (some ⟨w2.heap.size, 0, none⟩)) (.agg #[.bool false, .int .u8 9, .int .u8 9, .int .u8 9, .int .u8 9, .int .u8 0, .int .u8 0, .int .u8 0, .int .u8 0, .int .u8 0, .int .u8 0, .int .u8 0, .int .u8 0, .int .u8 0, .int .u8 0, .int .u8 0, .int .u8 0])).run Tryz.prog (w2.alloc (.cells z 36)) = .ok () (w2.alloc (.cells #[.bool false, .int .u8 9, .int .u8 9, .int .u8 9, .int .u8 9, .int .u8 0, .int .u8 0, .int .u8 0, .int .u8 0, .int .u8 0, .int .u8 0, .int .u8 0, .int .u8 0, .int .u8 0, .int .u8 0, .int .u8 0, .int .u8 0] 36)) :=
    fun z hz => run_storeAt_new (v := .agg #[.bool false, .int .u8 9, .int .u8 9, .int .u8 9, .int .u8 9, .int .u8 0, .int .u8 0, .int .u8 0, .int .u8 0, .int .u8 0, .int .u8 0, .int .u8 0, .int .u8 0, .int .u8 0, .int .u8 0, .int .u8 0, .int .u8 0]) (by kernel_rfl) (by simpa [Value.cells] using hz) (by simp [Value.cells, Value.oneCell'])
  clear hS1 hm1 hE1 c2 hb2
  go_wp2_with (refine wpList_store_run (t := 36) rfl rfl rfl rfl (hst _ rfl) (stop_ ?_))
  unfold Stop
  clear hst
  generalize w2.alloc (.cells #[.bool false, .int .u8 9, .int .u8 9, .int .u8 9, .int .u8 9, .int .u8 0, .int .u8 0, .int .u8 0, .int .u8 0, .int .u8 0, .int .u8 0, .int .u8 0, .int .u8 0, .int .u8 0, .int .u8 0, .int .u8 0, .int .u8 0] 36) = W3 at *
  generalize w2.heap.size = r at *
  have hS3 := hS2.drew
  have hh : W3.drew.heap[r]? = some (.cells #[.bool false, .int .u8 9, .int .u8 9, .int .u8 9, .int .u8 9, .int .u8 0, .int .u8 0, .int .u8 0, .int .u8 0, .int .u8 0, .int .u8 0, .int .u8 0, .int .u8 0, .int .u8 0, .int .u8 0, .int .u8 0, .int .u8 0] 36) := hS3.heap
  have c3 := aplain_nil W3.drew hE2
  go_wp2_with fail
  try go_frame
  refine wp_region_ord [(0, .quiet), (1, .pure), (2, .acts), (3, .seals), (4, .pure)] (by kernel_rfl) (by kernel_rfl) (fun w' => w'.heap[r]? = some (.cells #[.bool false, .int .u8 9, .int .u8 9, .int .u8 9, .int .u8 9, .int .u8 0, .int .u8 0, .int .u8 0, .int .u8 0, .int .u8 0, .int .u8 0, .int .u8 0, .int .u8 0, .int .u8 0, .int .u8 0, .int .u8 0, .int .u8 0] 36)) hh ?_
  refine ord_load (t := 36) rfl rfl rfl (p := .pointer (some ⟨r, 0, none⟩)) (v := .agg #[.bool false, .int .u8 9, .int .u8 9, .int .u8 9, .int .u8 9, .int .u8 0, .int .u8 0, .int .u8 0, .int .u8 0, .int .u8 0, .int .u8 0, .int .u8 0, .int .u8 0, .int .u8 0, .int .u8 0, .int .u8 0, .int .u8 0]) rfl (fun w' hC => run_loadAt_row (cs := [.bool false, .int .u8 9, .int .u8 9, .int .u8 9, .int .u8 9, .int .u8 0, .int .u8 0, .int .u8 0, .int .u8 0, .int .u8 0, .int .u8 0, .int .u8 0, .int .u8 0, .int .u8 0, .int .u8 0, .int .u8 0, .int .u8 0]) hC Tryz.underlying36 rfl (by kernel_rfl) (fun j u hu => by simpa using hu)) (fun K' hK => ?_)
  go_simp
  refine hK _ ?_
  clear hK K'
  iterate 1 (refine ord_pure rfl rfl rfl (fun K' hK => ?_); go_big_quiet_op; refine hK _ ?_; clear hK K')
  refine ord_acts rfl rfl (fun K' hK => ?_)
  go_simp
  refine c3.mono ?_
  rintro e w4 ⟨rfl, hb4⟩
  have hS4 := hS3.below_ hb4
  refine hK _ _ hS4.heap ?_
  clear hK K'
  have hst := run_storeAt_row (P := Tryz.prog) (o := 0) (ty := 36) (v := .agg #[.bool false, .int .u8 9, .int .u8 9, .int .u8 9, .int .u8 9, .int .u8 0, .int .u8 0, .int .u8 0, .int .u8 0, .int .u8 0, .int .u8 0, .int .u8 0, .int .u8 0, .int .u8 0, .int .u8 0, .int .u8 0, .int .u8 0]) hS4.pull2.heap (by kernel_rfl) (by simp [Value.cells]) (by simp [Value.cells, Value.oneCell'])
  have hS9 := hS4.pull2.setRow (cs := #[.bool false, .int .u8 9, .int .u8 9, .int .u8 9, .int .u8 9, .int .u8 0, .int .u8 0, .int .u8 0, .int .u8 0, .int .u8 0, .int .u8 0, .int .u8 0, .int .u8 0, .int .u8 0, .int .u8 0, .int .u8 0, .int .u8 0])
  simp only [Value.cells] at hst
  rw [show splice (#[.bool false, .int .u8 0, .int .u8 0, .int .u8 0, .int .u8 0, .int .u8 0, .int .u8 0, .int .u8 0, .int .u8 0, .int .u8 0, .int .u8 0, .int .u8 0, .int .u8 0, .int .u8 0, .int .u8 0, .int .u8 0, .int .u8 0] : Array Value) 0 (#[.bool false, .int .u8 9, .int .u8 9, .int .u8 9, .int .u8 9, .int .u8 0, .int .u8 0, .int .u8 0, .int .u8 0, .int .u8 0, .int .u8 0, .int .u8 0, .int .u8 0, .int .u8 0, .int .u8 0, .int .u8 0, .int .u8 0] : Array Value).toList = #[.bool false, .int .u8 9, .int .u8 9, .int .u8 9, .int .u8 9, .int .u8 0, .int .u8 0, .int .u8 0, .int .u8 0, .int .u8 0, .int .u8 0, .int .u8 0, .int .u8 0, .int .u8 0, .int .u8 0, .int .u8 0, .int .u8 0] by rfl] at hst
  have hl9 : (Instr.loadAt 36 (.pointer (some ⟨q, 0, none⟩))).run Tryz.prog (w4.setRow q #[.bool false, .int .u8 9, .int .u8 9, .int .u8 9, .int .u8 9, .int .u8 0, .int .u8 0, .int .u8 0, .int .u8 0, .int .u8 0, .int .u8 0, .int .u8 0, .int .u8 0, .int .u8 0, .int .u8 0, .int .u8 0, .int .u8 0]) = .ok (.agg #[.bool false, .int .u8 9, .int .u8 9, .int .u8 9, .int .u8 9, .int .u8 0, .int .u8 0, .int .u8 0, .int .u8 0, .int .u8 0, .int .u8 0, .int .u8 0, .int .u8 0, .int .u8 0, .int .u8 0, .int .u8 0, .int .u8 0]) (w4.setRow q #[.bool false, .int .u8 9, .int .u8 9, .int .u8 9, .int .u8 9, .int .u8 0, .int .u8 0, .int .u8 0, .int .u8 0, .int .u8 0, .int .u8 0, .int .u8 0, .int .u8 0, .int .u8 0, .int .u8 0, .int .u8 0, .int .u8 0]) :=
    run_loadAt_row (cs := [.bool false, .int .u8 9, .int .u8 9, .int .u8 9, .int .u8 9, .int .u8 0, .int .u8 0, .int .u8 0, .int .u8 0, .int .u8 0, .int .u8 0, .int .u8 0, .int .u8 0, .int .u8 0, .int .u8 0, .int .u8 0, .int .u8 0]) hS9.heap Tryz.underlying36 rfl (by kernel_rfl) (fun j u hu => by simpa using hu)
  have hB := hS9.below
  refine ord_store rfl rfl rfl rfl (p := .pointer (some ⟨q, 0, none⟩)) (v := .agg #[.bool false, .int .u8 9, .int .u8 9, .int .u8 9, .int .u8 9, .int .u8 0, .int .u8 0, .int .u8 0, .int .u8 0, .int .u8 0, .int .u8 0, .int .u8 0, .int .u8 0, .int .u8 0, .int .u8 0, .int .u8 0, .int .u8 0]) rfl rfl hst (fun _ => True) trivial ?_
  iterate 1 (refine ord_pure rfl rfl rfl (fun K' hK => ?_); go_big_quiet_op; refine hK _ ?_; clear hK K')
  refine ord_nil ?_
  go_wp2_with fail
  refine ret_cell_tmp rfl rfl rfl hl9 rfl ⟨rfl, hB⟩
theorem nocolon_m : decide (0 ≤ Lib.indexByte (⟨#[49, 48, 46, 48, 46, 48, 46, 48]⟩ : ByteArray).data.toList 58) = false := by decide
set_option maxRecDepth 8000 in
set_option maxHeartbeats 2000000 in
theorem aparse_m (w : World) (hm : Mx w) (hE : Et w) : Calls Tryz.prog 188 #[.string ⟨#[49, 48, 46, 48, 46, 48, 46, 48]⟩] w fun e w' => e = .returned (.tuple #[.agg #[.bool false, .int .u8 10, .int .u8 0, .int .u8 0, .int .u8 0, .int .u8 0, .int .u8 0, .int .u8 0, .int .u8 0, .int .u8 0, .int .u8 0, .int .u8 0, .int .u8 0, .int .u8 0, .int .u8 0, .int .u8 0, .int .u8 0], .nilIface]) ∧ Below w.heap.size w w' := by
  have c1 := fun W => Tryz.strings_Contains_one ⟨#[49, 48, 46, 48, 46, 48, 46, 48]⟩ 58 W
  rw [nocolon_m] at c1
  have hS1 := (Sat.start w).alloc (.cells #[.bool false, .int .u8 0, .int .u8 0, .int .u8 0, .int .u8 0, .int .u8 0, .int .u8 0, .int .u8 0, .int .u8 0, .int .u8 0, .int .u8 0, .int .u8 0, .int .u8 0, .int .u8 0, .int .u8 0, .int .u8 0, .int .u8 0] 36)
  have hm1 := hm.below hS1.below
  have hE1 := hE.below hS1.below
  have c2 := four_m _ hm1
  generalize hq : w.heap.size = q at *
  go_enter Tryz.func188, Tryz.ntmps188
  go_wp2_with fail
  refine (c1 _).mono ?_
  rintro e w1 ⟨rfl, rfl⟩
  go_wp2_with fail
  refine c2.mono ?_
  rintro e w2 ⟨rfl, hb2⟩
  have hS2 := (hS1.below_ hb2).alloc (.cells #[.bool false, .int .u8 10, .int .u8 0, .int .u8 0, .int .u8 0, .int .u8 0, .int .u8 0, .int .u8 0, .int .u8 0, .int .u8 0, .int .u8 0, .int .u8 0, .int .u8 0, .int .u8 0, .int .u8 0, .int .u8 0, .int .u8 0] 36)
  have hE2 := (hE1.below hb2).below ((Below.refl _ _).alloc (Nat.le_refl _) (.cells #[.bool false, .int .u8 10, .int .u8 0, .int .u8 0, .int .u8 0, .int .u8 0, .int .u8 0, .int .u8 0, .int .u8 0, .int .u8 0, .int .u8 0, .int .u8 0, .int .u8 0, .int .u8 0, .int .u8 0, .int .u8 0, .int .u8 0] 36))
  have hst : ∀ z : Array Value, z.size = 17 → (Instr.storeAt 36 (.pointer (some ⟨w2.heap.size, 0, none⟩)) (.agg #[.bool false, .int .u8 10, .int .u8 0, .int .u8 0, .int .u8 0, .int .u8 0, .int .u8 0, .int .u8 0, .int .u8 0, .int .u8 0, .int .u8 0, .int .u8 0, .int .u8 0, .int .u8 0, .int .u8 0, .int .u8 0, .int .u8 0])).run Tryz.prog (w2.alloc (.cells z 36)) = .ok () (w2.alloc (.cells #[.bool false, .int .u8 10, .int .u8 0, .int .u8 0, .int .u8 0, .int .u8 0, .int .u8 0, .int .u8 0, .int .u8 0, .int .u8 0, .int .u8 0, .int .u8 0, .int .u8 0, .int .u8 0, .int .u8 0, .int .u8 0, .int .u8 0] 36)) :=
    fun z hz => run_storeAt_new (v := .agg #[.bool false, .int .u8 10, .int .u8 0, .int .u8 0, .int .u8 0, .int .u8 0, .int .u8 0, .int .u8 0, .int .u8 0, .int .u8 0, .int .u8 0, .int .u8 0, .int .u8 0, .int .u8 0, .int .u8 0, .int .u8 0, .int .u8 0]) (by kernel_rfl) (by simpa [Value.cells] using hz) (by simp [Value.cells, Value.oneCell'])
  clear hS1 hm1 hE1 c2 hb2
  go_wp2_with (refine wpList_store_run (t := 36) rfl rfl rfl rfl (hst _ rfl) (stop_ ?_))
  unfold Stop
  clear hst
  generalize w2.alloc (.cells #[.bool false, .int .u8 10, .int .u8 0, .int .u8 0, .int .u8 0, .int .u8 0, .int .u8 0, .int .u8 0, .int .u8 0, .int .u8 0, .int .u8 0, .int .u8 0, .int .u8 0, .int .u8 0, .int .u8 0, .int .u8 0, .int .u8 0] 36) = W3 at *
  generalize w2.heap.size = r at *
  have hS3 := hS2.drew
  have hh : W3.drew.heap[r]? = some (.cells #[.bool false, .int .u8 10, .int .u8 0, .int .u8 0, .int .u8 0, .int .u8 0, .int .u8 0, .int .u8 0, .int .u8 0, .int .u8 0, .int .u8 0, .int .u8 0, .int .u8 0, .int .u8 0, .int .u8 0, .int .u8 0, .int .u8 0] 36) := hS3.heap
  have c3 := aplain_nil W3.drew hE2
  go_wp2_with fail
  try go_frame
  refine wp_region_ord [(0, .quiet), (1, .pure), (2, .acts), (3, .seals), (4, .pure)] (by kernel_rfl) (by kernel_rfl) (fun w' => w'.heap[r]? = some (.cells #[.bool false, .int .u8 10, .int .u8 0, .int .u8 0, .int .u8 0, .int .u8 0, .int .u8 0, .int .u8 0, .int .u8 0, .int .u8 0, .int .u8 0, .int .u8 0, .int .u8 0, .int .u8 0, .int .u8 0, .int .u8 0, .int .u8 0] 36)) hh ?_
  refine ord_load (t := 36) rfl rfl rfl (p := .pointer (some ⟨r, 0, none⟩)) (v := .agg #[.bool false, .int .u8 10, .int .u8 0, .int .u8 0, .int .u8 0, .int .u8 0, .int .u8 0, .int .u8 0, .int .u8 0, .int .u8 0, .int .u8 0, .int .u8 0, .int .u8 0, .int .u8 0, .int .u8 0, .int .u8 0, .int .u8 0]) rfl (fun w' hC => run_loadAt_row (cs := [.bool false, .int .u8 10, .int .u8 0, .int .u8 0, .int .u8 0, .int .u8 0, .int .u8 0, .int .u8 0, .int .u8 0, .int .u8 0, .int .u8 0, .int .u8 0, .int .u8 0, .int .u8 0, .int .u8 0, .int .u8 0, .int .u8 0]) hC Tryz.underlying36 rfl (by kernel_rfl) (fun j u hu => by simpa using hu)) (fun K' hK => ?_)
  go_simp
  refine hK _ ?_
  clear hK K'
  iterate 1 (refine ord_pure rfl rfl rfl (fun K' hK => ?_); go_big_quiet_op; refine hK _ ?_; clear hK K')
  refine ord_acts rfl rfl (fun K' hK => ?_)
  go_simp
  refine c3.mono ?_
  rintro e w4 ⟨rfl, hb4⟩
  have hS4 := hS3.below_ hb4
  refine hK _ _ hS4.heap ?_
  clear hK K'
  have hst := run_storeAt_row (P := Tryz.prog) (o := 0) (ty := 36) (v := .agg #[.bool false, .int .u8 10, .int .u8 0, .int .u8 0, .int .u8 0, .int .u8 0, .int .u8 0, .int .u8 0, .int .u8 0, .int .u8 0, .int .u8 0, .int .u8 0, .int .u8 0, .int .u8 0, .int .u8 0, .int .u8 0, .int .u8 0]) hS4.pull2.heap (by kernel_rfl) (by simp [Value.cells]) (by simp [Value.cells, Value.oneCell'])
  have hS9 := hS4.pull2.setRow (cs := #[.bool false, .int .u8 10, .int .u8 0, .int .u8 0, .int .u8 0, .int .u8 0, .int .u8 0, .int .u8 0, .int .u8 0, .int .u8 0, .int .u8 0, .int .u8 0, .int .u8 0, .int .u8 0, .int .u8 0, .int .u8 0, .int .u8 0])
  simp only [Value.cells] at hst
  rw [show splice (#[.bool false, .int .u8 0, .int .u8 0, .int .u8 0, .int .u8 0, .int .u8 0, .int .u8 0, .int .u8 0, .int .u8 0, .int .u8 0, .int .u8 0, .int .u8 0, .int .u8 0, .int .u8 0, .int .u8 0, .int .u8 0, .int .u8 0] : Array Value) 0 (#[.bool false, .int .u8 10, .int .u8 0, .int .u8 0, .int .u8 0, .int .u8 0, .int .u8 0, .int .u8 0, .int .u8 0, .int .u8 0, .int .u8 0, .int .u8 0, .int .u8 0, .int .u8 0, .int .u8 0, .int .u8 0, .int .u8 0] : Array Value).toList = #[.bool false, .int .u8 10, .int .u8 0, .int .u8 0, .int .u8 0, .int .u8 0, .int .u8 0, .int .u8 0, .int .u8 0, .int .u8 0, .int .u8 0, .int .u8 0, .int .u8 0, .int .u8 0, .int .u8 0, .int .u8 0, .int .u8 0] by rfl] at hst
  have hl9 : (Instr.loadAt 36 (.pointer (some ⟨q, 0, none⟩))).run Tryz.prog (w4.setRow q #[.bool false, .int .u8 10, .int .u8 0, .int .u8 0, .int .u8 0, .int .u8 0, .int .u8 0, .int .u8 0, .int .u8 0, .int .u8 0, .int .u8 0, .int .u8 0, .int .u8 0, .int .u8 0, .int .u8 0, .int .u8 0, .int .u8 0]) = .ok (.agg #[.bool false, .int .u8 10, .int .u8 0, .int .u8 0, .int .u8 0, .int .u8 0, .int .u8 0, .int .u8 0, .int .u8 0, .int .u8 0, .int .u8 0, .int .u8 0, .int .u8 0, .int .u8 0, .int .u8 0, .int .u8 0, .int .u8 0]) (w4.setRow q #[.bool false, .int .u8 10, .int .u8 0, .int .u8 0, .int .u8 0, .int .u8 0, .int .u8 0, .int .u8 0, .int .u8 0, .int .u8 0, .int .u8 0, .int .u8 0, .int .u8 0, .int .u8 0, .int .u8 0, .int .u8 0, .int .u8 0]) :=
    run_loadAt_row (cs := [.bool false, .int .u8 10, .int .u8 0, .int .u8 0, .int .u8 0, .int .u8 0, .int .u8 0, .int .u8 0, .int .u8 0, .int .u8 0, .int .u8 0, .int .u8 0, .int .u8 0, .int .u8 0, .int .u8 0, .int .u8 0, .int .u8 0]) hS9.heap Tryz.underlying36 rfl (by kernel_rfl) (fun j u hu => by simpa using hu)
  have hB := hS9.below
  refine ord_store rfl rfl rfl rfl (p := .pointer (some ⟨q, 0, none⟩)) (v := .agg #[.bool false, .int .u8 10, .int .u8 0, .int .u8 0, .int .u8 0, .int .u8 0, .int .u8 0, .int .u8 0, .int .u8 0, .int .u8 0, .int .u8 0, .int .u8 0, .int .u8 0, .int .u8 0, .int .u8 0, .int .u8 0, .int .u8 0]) rfl rfl hst (fun _ => True) trivial ?_
  iterate 1 (refine ord_pure rfl rfl rfl (fun K' hK => ?_); go_big_quiet_op; refine hK _ ?_; clear hK K')
  refine ord_nil ?_
  go_wp2_with fail
  refine ret_cell_tmp rfl rfl rfl hl9 rfl ⟨rfl, hB⟩
end Go.Proofs.YtdcekoocnoackaaGreatDoor

/-! rule.proto at three words; span at one. -/
namespace Go.Proofs.YtdcekoocnoackaaGreatDoor
open Go Go.RowKit

def udpB : ByteArray := ⟨#[117, 100, 112]⟩
def tcpB : ByteArray := ⟨#[116, 99, 112]⟩
def anyB : ByteArray := ⟨#[97, 110, 121]⟩
def starB : ByteArray := ⟨#[42]⟩
set_option maxRecDepth 8000 in
theorem proto_udp (w : World) : Calls Tryz.prog 194 #[.string udpB] w fun e w' => e = .returned (.tuple #[.int .i64 17, .bool true]) ∧ w' = w := by
  unfold udpB
  go_enter Tryz.func194, Tryz.ntmps194
  go_wp2_with fail
  go_ret2
  exact ⟨rfl, rfl⟩
set_option maxRecDepth 8000 in
theorem proto_tcp (w : World) : Calls Tryz.prog 194 #[.string tcpB] w fun e w' => e = .returned (.tuple #[.int .i64 6, .bool true]) ∧ w' = w := by
  unfold tcpB
  go_enter Tryz.func194, Tryz.ntmps194
  go_wp2_with fail
  go_ret2
  exact ⟨rfl, rfl⟩
set_option maxRecDepth 8000 in
theorem proto_any (w : World) : Calls Tryz.prog 194 #[.string anyB] w fun e w' => e = .returned (.tuple #[.int .i64 256, .bool true]) ∧ w' = w := by
  unfold anyB
  go_enter Tryz.func194, Tryz.ntmps194
  go_wp2_with fail
  go_ret2
  exact ⟨rfl, rfl⟩
set_option maxRecDepth 8000 in
theorem span_star (w : World) : Calls Tryz.prog 196 #[.string starB] w fun e w' => e = .returned (.tuple #[.int .i64 0, .int .i64 65535, .nilIface]) ∧ w' = w := by
  unfold starB
  go_enter Tryz.func196, Tryz.ntmps196
  go_wp2_with fail
  go_ret3
  exact ⟨rfl, rfl⟩
end Go.Proofs.YtdcekoocnoackaaGreatDoor

/-! errors.Join of nothing; rule.span at one text. -/
namespace Go.Proofs.YtdcekoocnoackaaGreatDoor
open Go Go.RowKit

set_option maxRecDepth 8000 in
set_option maxHeartbeats 1000000 in
theorem join_nil {w : World} {g : Nat} (h0 : w.cell? ⟨g, 0, none⟩ = some .nilIface) (h1 : w.cell? ⟨g, 1, none⟩ = some .nilIface) : Calls Tryz.prog 252 #[.slice (some ⟨g, 0, none⟩) 2 2] w fun e w' => e = .returned .nilIface ∧ w' = w := by
  go_enter Tryz.func252, Tryz.ntmps252
  go_wp2_with fail
  refine wp_loop_rounds 3 ?_
  rw [rounds_succ]
  go_wp2_with fail
  rw [rounds_succ]
  go_wp2_with fail
  rw [rounds_succ]
  go_wp2_with fail
  go_ret
  exact ⟨rfl, rfl⟩
set_option maxRecDepth 8000 in
set_option maxHeartbeats 1000000 in
theorem span_19 (w : World) (hm : Mx w) : Calls Tryz.prog 196 #[.string ⟨#[49, 45, 57]⟩] w fun e w' => e = .returned (.tuple #[.int .i64 1, .int .i64 9, .nilIface]) ∧ Below w.heap.size w w' := by
  obtain ⟨m, hm0⟩ := hm
  have c1 : Calls Tryz.prog 250 #[.string ⟨#[49, 45, 57]⟩, .string ⟨#[45]⟩] w fun e w' => e = .returned (.tuple #[.string ⟨#[49]⟩, .string ⟨#[57]⟩, .bool true]) ∧ ∃ n, w' = w.drewN n :=
    Tryz.strings_Cut ⟨#[49, 45, 57]⟩ ⟨#[45]⟩ m w (by decide) hm0
  clear hm0
  go_enter Tryz.func196, Tryz.ntmps196
  go_wp2_with fail
  refine c1.mono ?_
  rintro e w1 ⟨rfl, n, hw1⟩
  have hb1 : Below w.heap.size w w1 := by rw [hw1]; exact ((Sat.start w).drewN n).below
  clear hw1 c1
  go_wp2_with fail
  refine (port_1 _).mono ?_
  rintro e w2 ⟨rfl, hb2⟩
  go_wp2_with fail
  refine (port_9 _).mono ?_
  rintro e w3 ⟨rfl, hb3⟩
  have hb := (hb1.trans (hb2.mono hb1.size))
  have hb' := hb.trans (hb3.mono hb.size)
  clear hb1 hb2 hb3 hb
  go_wp2_with fail
  have hS := (Sat.start w3).alloc (.cells #[.nilIface, .nilIface] 25)
  have hb4 := hb'.trans (hS.below.mono hb'.size)
  refine (join_nil (cell_heap hS.heap rfl) (cell_heap hS.heap rfl)).mono ?_
  rintro e w4 ⟨rfl, rfl⟩
  clear hS
  go_wp2_with fail
  refine (is_nil 16 _).mono ?_
  rintro e w5 ⟨rfl, rfl⟩
  go_wp2_with fail
  go_ret3
  exact ⟨rfl, hb4⟩
end Go.Proofs.YtdcekoocnoackaaGreatDoor
