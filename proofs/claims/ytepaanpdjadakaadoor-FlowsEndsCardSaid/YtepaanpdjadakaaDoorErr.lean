import Derived.Test.YtepaanpdjadakaaDoorProg
import Derived.KernelRfl
import Derived.Test.YtepaanpdjadakaaDoorBase
import Derived.WalkKit
import Derived.LaidEql
import Derived.Stop.Asserts
import Derived.RowKitTokens
import Derived.Lib.Hide
/-! errors.Is and errors.As at errors that are numbers. -/
namespace Go.Proofs.YtepaanpdjadakaaDoor
open Go Go.RowKit Go.Extern.Stop Go.Stop Go.Extern

/-- What the library's variable holds. -/
def Et (w : World) : Prop := w.cell? ⟨0, 0, none⟩ = some (.iface 242 (.agg #[.pointer (some ⟨1, 28, none⟩)]))
theorem Et.below {w w' : World} (h : Et w) (hb : Below w.heap.size w w') : Et w' := by
  unfold Et at *
  rw [hb.cell (World.block_lt_of_cell? _ _ h)]; exact h
theorem Et.pos {w : World} (h : Et w) : 0 < w.heap.size := World.block_lt_of_cell? _ _ h
theorem Sat.et {B : Nat} {w0 w : World} {A : HP} (h : Sat B w0 w A) (hB : 0 < B) (hE : Et w0) : Et w := by
  unfold Et World.cell? at *
  rw [h.below.block 0 hB]; exact hE

theorem e_typeOf (v : Value) (w : World) : (ReflectliteType.typeOf #[.iface 44 v]).run Tryd.prog w = .ok (.iface 242 (.agg #[.pointer (some ⟨1, 44, none⟩)])) w := by kernel_rfl
theorem e_comparable (w : World) : ((ReflectliteType.method fun t => do Rtype.noPackHeld "Comparable" t; (fun a => Value.bool a.comparable) <$> typeInfo t) #[.agg #[.pointer (some ⟨1, 44, none⟩)]]).run Tryd.prog w = .ok (.bool true) w := by kernel_rfl
theorem e_mComparable (v : Value) (w : World) : (Go.method 394 242 (.agg #[v]) "Comparable").run Tryd.prog w = .ok (199, .agg #[v]) w := by kernel_rfl
theorem e_noIs (v : Value) (w : World) : (Instr.typeAssert (.iface 44 v) 28 244 true).run Tryd.prog w = .ok (.tuple #[.nilIface, .bool false]) w := run_typeAssert_lacksB Tryd.underlying244 (by kernel_rfl) (by kernel_rfl) v 28 w
theorem e_noUnwrap (v : Value) (w : World) : (Instr.typeAssert (.iface 44 v) 28 247 true).run Tryd.prog w = .ok (.tuple #[.nilIface, .bool false]) w := run_typeAssert_lacksB Tryd.underlying247 (by kernel_rfl) (by kernel_rfl) v 28 w
theorem e_noUnwraps (v : Value) (w : World) : (Instr.typeAssert (.iface 44 v) 28 249 true).run Tryd.prog w = .ok (.tuple #[.nilIface, .bool false]) w := run_typeAssert_lacksB Tryd.underlying249 (by kernel_rfl) (by kernel_rfl) v 28 w
theorem e_noAs (v : Value) (w : World) : (Instr.typeAssert (.iface 44 v) 28 254 true).run Tryd.prog w = .ok (.tuple #[.nilIface, .bool false]) w := run_typeAssert_lacksB Tryd.underlying254 (by kernel_rfl) (by kernel_rfl) v 28 w
theorem equalIn_errno (w : World) (d : Nat) (a b : Int) : (Op.equalIn (d + 2) 28 (.iface 44 (.int .i64 a)) (.iface 44 (.int .i64 b))).run Tryd.prog w = .ok (a == b) w := by
  obtain ⟨i, hi, hc⟩ := Option.map_eq_some_iff.1 (show (Tryd.prog.info? 44).map (·.comparable) = some true by kernel_rfl)
  obtain ⟨ms, hms⟩ : ∃ ms, Tryd.prog.underlying 28 = some (.interface ms) := ⟨_, Tryd.underlying28⟩
  obtain ⟨q, hq⟩ : ∃ q, Tryd.prog.underlying 44 = some (.int q) := ⟨_, Tryd.underlying44⟩
  simp [Op.equalIn, run_underlying hms, run_underlying hq, typeInfo, hi, hc]
theorem eql_errno (a b : Int) (w : World) : (binOp .eql 28 (.iface 44 (.int .i64 a)) (.iface 44 (.int .i64 b))).run Tryd.prog w = .ok (.bool (a == b)) w := by
  simp only [binOp]
  simp [Op.equal, Op.maxDepth, equalIn_errno w 9998 a b]

set_option maxRecDepth 8000 in
set_option maxHeartbeats 1000000 in
/-- errors.Is(nil, c). -/
theorem is_nil (c : Int) (w : World) : Calls Tryd.prog 85 #[.nilIface, .iface 44 (.int .i64 c)] w fun e w' => e = .returned (.bool false) ∧ w' = w := by
  have he := fun (w : World) (v : Value) => run_eql_iface_nil_left (w := w) 44 v Tryd.underlying28
  go_enter Tryd.func85, Tryd.ntmps85
  go_wp2
  go_ret
  exact ⟨rfl, rfl⟩
set_option maxRecDepth 8000 in
set_option maxHeartbeats 1000000 in
theorem iss_errno (n c : Int) (w : World) : Calls Tryd.prog 131 #[.iface 44 (.int .i64 n), .iface 44 (.int .i64 c), .bool true] w fun e w' => e = .returned (.bool (n == c)) ∧ w' = w := by
  have he := eql_errno n c
  have n1 := e_noIs
  have n2 := e_noUnwrap
  have n3 := e_noUnwraps
  cases hq : n == c
  · rw [hq] at he
    go_enter Tryd.func131, Tryd.ntmps131
    go_wp2
    refine wp_loop_rounds 1 ?_
    rw [rounds_succ]
    go_wp2
    go_ret
    exact ⟨rfl, rfl⟩
  · rw [hq] at he
    go_enter Tryd.func131, Tryd.ntmps131
    go_wp2
    refine wp_loop_rounds 1 ?_
    rw [rounds_succ]
    go_wp2
    go_ret
    exact ⟨rfl, rfl⟩
set_option maxRecDepth 8000 in
set_option maxHeartbeats 1000000 in
/-- errors.Is(n, c). -/
theorem is_errno (n c : Int) (w : World) : Calls Tryd.prog 85 #[.iface 44 (.int .i64 n), .iface 44 (.int .i64 c)] w fun e w' => e = .returned (.bool (n == c)) ∧ w' = w := by
  have h1 := @run_callFunc_extern Tryd.prog 130 _ ReflectliteType.typeOf Tryd.func130 (by kernel_rfl) (by kernel_rfl) (by kernel_rfl) (by kernel_rfl)
  have h2 := @run_callFunc_extern Tryd.prog 199 _ (ReflectliteType.method fun t => do Rtype.noPackHeld "Comparable" t; pure (.bool (← typeInfo t).comparable)) Tryd.func199 (by kernel_rfl) (by kernel_rfl) (by kernel_rfl) (by kernel_rfl)
  have t1 := e_typeOf
  have t2 := e_mComparable
  have t3 := e_comparable
  go_enter Tryd.func85, Tryd.ntmps85
  go_wp2_with fail
  refine (iss_errno n c _).mono ?_
  rintro e w1 ⟨rfl, rfl⟩
  go_wp2_with fail
  go_ret
  exact ⟨rfl, rfl⟩
end Go.Proofs.YtepaanpdjadakaaDoor
