import Derived.Test.YtepaanpdjadakaaDoorLrn
import Derived.Test.YtepaanpdjadakaaDoorSameF
import Derived.Laws.IdiomStrings
/-! Small helps: Digits of one digit, V4, In at strings; awake of layer 25. -/
namespace Go.Proofs.YtepaanpdjadakaaDoor
open Go Go.RowKit

section
variable {P : Program} {w w' : World}
theorem wpList_convert_run {ops : Array Oper} {rest : List Oper} {o : Oper} {a : Act} {Q : Exit → Act → World → Prop} (hgd : o.guard = none) {s d : TypeId} {x : Operand} (ho : o.op = .convert s d x) {v u : Value} (hx : a.eval x = v)
    (hr : (convert s d v).run P w = .ok u w') (h : wpList P ops Q rest (a.put o.dst u) w') : wpList P ops Q (o :: rest) a w := by
  refine wpList_plain hgd fun K hK => ?_
  unfold Oper.wp execOp
  simp only [ho, hx, Sem.run_bind, hr, Result.andThen_ok, Sem.run_pure, Oper.upon]
  exact hK _ _ h
end
/-- One digit. -/
def digN (v : Nat) : ByteArray := ⟨#[UInt8.ofNat (48 + v)]⟩
set_option maxRecDepth 8000 in
set_option maxHeartbeats 1000000 in
theorem digits_any (v : Nat) (h : v < 10) (w : World) : Calls Tryd.prog 70 #[.int .i64 v] w fun e w' => e = .returned (.string (digN v)) ∧ Below w.heap.size w w' := by
  have hlt : (v : Int) < 10 := by omega
  have hw1 : IntKind.u8.wrap (48 + (v : Int)) = 48 + (v : Int) := by simp [IntKind.wrap, IntKind.bits, IntKind.signed]; omega
  have hw2 : IntKind.u8.wrap (IntKind.i64.wrap (48 + (v : Int))) = 48 + (v : Int) := by rw [IntWalk.i64_in _ (by omega)]; exact hw1
  have hS := (Sat.start w).alloc (.cells #[.int .u8 (48 + (v : Int))] 5)
  have hB := hS.below
  have hcv := run_convert_bytes_back (P := Tryd.prog) (w.alloc (.cells #[.int .u8 (48 + (v : Int))] 5)) 188 9 5 ⟨w.heap.size, 0, none⟩ 1 [UInt8.ofNat (48 + v)] Tryd.underlying188 Tryd.underlying5 Tryd.underlying9 (fun j hj => by
    have hj0 : j = 0 := by simpa using hj
    subst hj0
    have h2 : ((UInt8.ofNat (48 + v)).toNat : Int) = 48 + (v : Int) := by
      rw [UInt8.toNat_ofNat', Nat.mod_eq_of_lt (by omega)]; omega
    rw [show ([UInt8.ofNat (48 + v)])[0] = UInt8.ofNat (48 + v) from rfl, h2, Addr.add_lit]
    exact cell_heap hS.heap rfl)
  go_enter Tryd.func70, Tryd.ntmps70
  go_wp2_with (refine wpList_convert_run rfl rfl rfl hcv ?_)
  go_ret
  exact ⟨by rw [digN, UInt8.ofNat_add]; rfl, hB⟩
def adr4 (a b c d : Int) : Adr := ⟨false, [a, b, c, d, 0, 0, 0, 0, 0, 0, 0, 0, 0, 0, 0, 0], rfl⟩
set_option maxRecDepth 8000 in
set_option maxHeartbeats 1000000 in
theorem v4_any (a b c d : Int) (w : World) : Calls Tryd.prog 71 #[.int .u8 a, .int .u8 b, .int .u8 c, .int .u8 d] w fun e w' => e = .returned (.agg (adr4 a b c d).enc.toArray) ∧ Below w.heap.size w w' := by
  have hS := (Sat.start w).alloc (.cells (adr4 a b c d).enc.toArray 63)
  have hB := hS.below
  have hld : (Instr.loadAt 63 (.pointer (some ⟨w.heap.size, 0, none⟩))).run Tryd.prog (w.alloc (.cells (adr4 a b c d).enc.toArray 63)) = .ok (.agg (adr4 a b c d).enc.toArray) _ := run_loadAt_row hS.heap Tryd.underlying63 rfl (by rw [Adr.enc_length]; kernel_rfl) (fun j u hu => by simpa using hu)
  clear hS
  go_enter Tryd.func71, Tryd.ntmps71
  go_wp2_with fail
  refine ret_cell rfl rfl (v := .agg (adr4 a b c d).enc.toArray) hld rfl ?_
  exact ⟨rfl, hB⟩
def inB (l : List ByteArray) (x : ByteArray) : Bool := l.any fun y => decide (y = x)
theorem elem_has {l : List ByteArray} {k : Nat} {x y : ByteArray} (h : l[k]? = some y) (e : y = x) : inB l x = true :=
  List.any_eq_true.2 ⟨y, List.mem_of_getElem? h, decide_eq_true e⟩
theorem elem_none {l : List ByteArray} {x : ByteArray} (h : ∀ j y, j < l.length → l[j]? = some y → decide (y = x) = false) : inB l x = false := by
  unfold inB
  rw [List.any_eq_false]
  intro y hy
  obtain ⟨j, hj⟩ := List.mem_iff_getElem?.1 hy
  rw [h j y (List.getElem?_eq_some_iff.1 hj).1 hj]
  exact Bool.false_ne_true
set_option maxRecDepth 8000 in
set_option maxHeartbeats 1000000 in
theorem in_any (l : List ByteArray) (v : Value) (x : ByteArray) (w : World) (hv : RowsAt strC w v l) : Calls Tryd.prog 72 #[v, .string x] w fun e w' => e = .returned (.bool (inB l x)) ∧ Below w.heap.size w w' := by
  obtain ⟨A, c, rfl⟩ := hv.form
  have hll := hv.2
  unfold maxLen at hll
  go_enter Tryd.func72, Tryd.ntmps72
  go_wp2_with fail
  go_loopw [5] (fun i wr => ∃ k : Nat, k ≤ l.length ∧ i = .int .i64 k ∧ Below w.heap.size w wr ∧ Hid (∀ j y, j < k → l[j]? = some y → decide (y = x) = false)) (fun i _ => l.length - (intOf i).toNat)
  case atStart => exact ⟨0, Nat.zero_le _, rfl, Below.refl _ _, Lib.hid fun j y hj => absurd hj (Nat.not_lt_zero _)⟩
  case round =>
    obtain ⟨k, hk, rfl, hb, HK⟩ := hrel
    by_cases hlt : k < l.length
    · obtain ⟨y, hyk⟩ : ∃ y, l[k]? = some y := ⟨_, List.getElem?_eq_getElem hlt⟩
      have hltz : (k : Int) < l.length := by omega
      have hv2 := hv.below hb
      obtain ⟨a, ca, hva⟩ := hv2.some_addr hyk
      cases hva
      have hl := RowsAt.one_at (P := Tryd.prog) (f := .string) Tryd.underlying9 rfl (fun _ => rfl) hv2 hyk rfl
      have hyb : (y.toList == x.toList) = decide (y = x) := strl _ _
      have HY := Lib.hid hyk
      clear hyk
      cases hq : decide (y = x) with
      | true =>
        rw [hq] at hyb
        have HQ := Lib.hid (of_decide_eq_true hq)
        clear hq
        go_wp2_with (refine wpList_load_run (t := 9) rfl rfl rfl hl ?_)
        go_ret
        rw [elem_has HY.out HQ.out]
        exact ⟨rfl, hb⟩
      | false =>
        rw [hq] at hyb
        have HQ := Lib.hid hq
        clear hq
        go_wp2_with (refine wpList_load_run (t := 9) rfl rfl rfl hl ?_)
        go_roundw
        case rel => exact ⟨k + 1, by omega, by go_num, hb, Lib.hid (plc_next (f := fun y => decide (y = x)) HK.out HY.out HQ.out)⟩
        case measure => simp [intOf]; omega
    · obtain rfl : k = l.length := by omega
      have hltz : ¬ (l.length : Int) < l.length := by omega
      go_wp2_with fail
      go_ret
      rw [elem_none HK.out]
      exact ⟨rfl, hb⟩
end Go.Proofs.YtepaanpdjadakaaDoor
