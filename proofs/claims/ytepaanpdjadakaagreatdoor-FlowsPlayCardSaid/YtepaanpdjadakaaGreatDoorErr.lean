import Derived.Test.YtepaanpdjadakaaGreatDoorProg
import Derived.KernelRfl
import Derived.Test.YtepaanpdjadakaaGreatDoorBase
import Derived.WalkKit
import Derived.LaidEql
import Derived.Stop.Asserts
import Derived.RowKitTokens
import Derived.Lib.Hide
/-! errors.Is and errors.As at errors that are numbers. -/
namespace Go.Proofs.YtepaanpdjadakaaGreatDoor
open Go Go.RowKit Go.Extern.Stop Go.Stop Go.Extern

/-- What the library's variable holds. -/
def Et (w : World) : Prop := w.cell? ⟨0, 0, none⟩ = some (.iface 145 (.agg #[.pointer (some ⟨1, 48, none⟩)]))
theorem Et.below {w w' : World} (h : Et w) (hb : Below w.heap.size w w') : Et w' := by
  unfold Et at *
  rw [hb.cell (World.block_lt_of_cell? _ _ h)]; exact h
theorem Et.pos {w : World} (h : Et w) : 0 < w.heap.size := World.block_lt_of_cell? _ _ h
theorem Sat.et {B : Nat} {w0 w : World} {A : HP} (h : Sat B w0 w A) (hB : 0 < B) (hE : Et w0) : Et w := by
  unfold Et World.cell? at *
  rw [h.below.block 0 hB]; exact hE

theorem e_typeOf (v : Value) (w : World) : (ReflectliteType.typeOf #[.iface 50 v]).run Tryz.prog w = .ok (.iface 145 (.agg #[.pointer (some ⟨1, 50, none⟩)])) w := by kernel_rfl
theorem e_comparable (w : World) : ((ReflectliteType.method fun t => do Rtype.noPackHeld "Comparable" t; (fun a => Value.bool a.comparable) <$> typeInfo t) #[.agg #[.pointer (some ⟨1, 50, none⟩)]]).run Tryz.prog w = .ok (.bool true) w := by kernel_rfl
theorem e_mComparable (v : Value) (w : World) : (Go.method 296 145 (.agg #[v]) "Comparable").run Tryz.prog w = .ok (117, .agg #[v]) w := by kernel_rfl
theorem e_noIs (v : Value) (w : World) : (Instr.typeAssert (.iface 50 v) 48 157 true).run Tryz.prog w = .ok (.tuple #[.nilIface, .bool false]) w := run_typeAssert_lacksB Tryz.underlying157 (by kernel_rfl) (by kernel_rfl) v 48 w
theorem e_noUnwrap (v : Value) (w : World) : (Instr.typeAssert (.iface 50 v) 48 152 true).run Tryz.prog w = .ok (.tuple #[.nilIface, .bool false]) w := run_typeAssert_lacksB Tryz.underlying152 (by kernel_rfl) (by kernel_rfl) v 48 w
theorem e_noUnwraps (v : Value) (w : World) : (Instr.typeAssert (.iface 50 v) 48 154 true).run Tryz.prog w = .ok (.tuple #[.nilIface, .bool false]) w := run_typeAssert_lacksB Tryz.underlying154 (by kernel_rfl) (by kernel_rfl) v 48 w
theorem e_noAs (v : Value) (w : World) : (Instr.typeAssert (.iface 50 v) 48 149 true).run Tryz.prog w = .ok (.tuple #[.nilIface, .bool false]) w := run_typeAssert_lacksB Tryz.underlying149 (by kernel_rfl) (by kernel_rfl) v 48 w
theorem equalIn_errno (w : World) (d : Nat) (a b : Int) : (Op.equalIn (d + 2) 48 (.iface 50 (.int .i64 a)) (.iface 50 (.int .i64 b))).run Tryz.prog w = .ok (a == b) w := by
  obtain ⟨i, hi, hc⟩ := Option.map_eq_some_iff.1 (show (Tryz.prog.info? 50).map (·.comparable) = some true by kernel_rfl)
  obtain ⟨ms, hms⟩ : ∃ ms, Tryz.prog.underlying 48 = some (.interface ms) := ⟨_, Tryz.underlying48⟩
  obtain ⟨q, hq⟩ : ∃ q, Tryz.prog.underlying 50 = some (.int q) := ⟨_, Tryz.underlying50⟩
  simp [Op.equalIn, run_underlying hms, run_underlying hq, typeInfo, hi, hc]
theorem eql_errno (a b : Int) (w : World) : (binOp .eql 48 (.iface 50 (.int .i64 a)) (.iface 50 (.int .i64 b))).run Tryz.prog w = .ok (.bool (a == b)) w := by
  simp only [binOp]
  simp [Op.equal, Op.maxDepth, equalIn_errno w 9998 a b]

set_option maxRecDepth 8000 in
set_option maxHeartbeats 1000000 in
/-- errors.Is(nil, c). -/
theorem is_nil (c : Int) (w : World) : Calls Tryz.prog 45 #[.nilIface, .iface 50 (.int .i64 c)] w fun e w' => e = .returned (.bool false) ∧ w' = w := by
  have he := fun (w : World) (v : Value) => run_eql_iface_nil_left (w := w) 50 v Tryz.underlying48
  go_enter Tryz.func45, Tryz.ntmps45
  go_wp2
  go_ret
  exact ⟨rfl, rfl⟩
set_option maxRecDepth 8000 in
set_option maxHeartbeats 1000000 in
theorem iss_errno (n c : Int) (w : World) : Calls Tryz.prog 65 #[.iface 50 (.int .i64 n), .iface 50 (.int .i64 c), .bool true] w fun e w' => e = .returned (.bool (n == c)) ∧ w' = w := by
  have he := eql_errno n c
  have n1 := e_noIs
  have n2 := e_noUnwrap
  have n3 := e_noUnwraps
  cases hq : n == c
  · rw [hq] at he
    go_enter Tryz.func65, Tryz.ntmps65
    go_wp2
    refine wp_loop_rounds 1 ?_
    rw [rounds_succ]
    go_wp2
    go_ret
    exact ⟨rfl, rfl⟩
  · rw [hq] at he
    go_enter Tryz.func65, Tryz.ntmps65
    go_wp2
    refine wp_loop_rounds 1 ?_
    rw [rounds_succ]
    go_wp2
    go_ret
    exact ⟨rfl, rfl⟩
set_option maxRecDepth 8000 in
set_option maxHeartbeats 1000000 in
/-- errors.Is(n, c). -/
theorem is_errno (n c : Int) (w : World) : Calls Tryz.prog 45 #[.iface 50 (.int .i64 n), .iface 50 (.int .i64 c)] w fun e w' => e = .returned (.bool (n == c)) ∧ w' = w := by
  have h1 := @run_callFunc_extern Tryz.prog 64 _ ReflectliteType.typeOf Tryz.func64 (by kernel_rfl) (by kernel_rfl) (by kernel_rfl) (by kernel_rfl)
  have h2 := @run_callFunc_extern Tryz.prog 117 _ (ReflectliteType.method fun t => do Rtype.noPackHeld "Comparable" t; pure (.bool (← typeInfo t).comparable)) Tryz.func117 (by kernel_rfl) (by kernel_rfl) (by kernel_rfl) (by kernel_rfl)
  have t1 := e_typeOf
  have t2 := e_mComparable
  have t3 := e_comparable
  go_enter Tryz.func45, Tryz.ntmps45
  go_wp2_with fail
  refine (iss_errno n c _).mono ?_
  rintro e w1 ⟨rfl, rfl⟩
  go_wp2_with fail
  go_ret
  exact ⟨rfl, rfl⟩
end Go.Proofs.YtepaanpdjadakaaGreatDoor
