import Derived.Test.YtdcekoocnoackaaGreatDoorPart10
import Derived.Test.YtdcekoocnoackaaGreatDoorPart06
import Derived.WalkLawsBesides
import Derived.WalkSpells
import Derived.Test.YtdcekoocnoackaaGreatDoorPart07
import Derived.Lib.MinMax

/-! errors.As at errors that are numbers. -/
namespace Go.Proofs.YtdcekoocnoackaaGreatDoor
open Go Go.RowKit Go.Extern.Stop Go.Stop Go.Extern

theorem rlm (z : Sem Value) (f : TypeId → Addr → Nat → Nat → Sem Value) (v : Value) :
    ReflectliteValue.method z f #[v] = (do match ← ReflectliteValue.parts v with | none => z | some (t, a, fl) => f t a fl (fl % 32)) := rfl
theorem m_Kind (h : Value) (w : World) : (Go.method 664 181 (.agg #[h]) "Kind").run Tryz.prog w = .ok (392, h) w := by kernel_rfl
theorem m_Elem (h : Value) (w : World) : (Go.method 664 181 (.agg #[h]) "Elem").run Tryz.prog w = .ok (408, .agg #[h]) w := by kernel_rfl
theorem m_Implements (h : Value) (w : World) : (Go.method 664 181 (.agg #[h]) "Implements").run Tryz.prog w = .ok (409, .agg #[h]) w := by kernel_rfl
theorem m_AssignableTo (h : Value) (w : World) : (Go.method 664 181 (.agg #[h]) "AssignableTo").run Tryz.prog w = .ok (406, .agg #[h]) w := by kernel_rfl

theorem valueOf_pe (t : Addr) (w : World) : (ReflectliteValue.unpack (.iface 60 (.pointer (some t)))).run Tryz.prog w = .ok (.agg #[.pointer (some ⟨9, 60, none⟩), .pointer (some ⟨w.heap.size, 0, none⟩), .int .u64 150]) (w.alloc (.cells #[.pointer (some t)] 60)) := by kernel_rfl
theorem type_pe (a : Addr) (w : World) : (ReflectliteValue.methodAny (ReflectliteValue.valueError "reflectlite.Value.Type" 0) (fun t _ _ _ => ReflectliteType.toType t) #[.agg #[.pointer (some ⟨9, 60, none⟩), .pointer (some a), .int .u64 150]]).run Tryz.prog w = .ok (.iface 181 (.agg #[.pointer (some ⟨9, 60, none⟩)])) w := by kernel_rfl
theorem kindP_pe (w : World) : ((ReflectliteType.abiMethod fun t => (fun a : Nat => Value.int IntKind.u8 (a : Int)) <$> Rtype.kind t) #[.pointer (some ⟨9, 60, none⟩)]).run Tryz.prog w = .ok (.int .u8 22) w := by kernel_rfl
theorem kindE_pe (w : World) : ((ReflectliteType.abiMethod fun t => (fun a : Nat => Value.int IntKind.u8 (a : Int)) <$> Rtype.kind t) #[.pointer (some ⟨9, 58, none⟩)]).run Tryz.prog w = .ok (.int .u8 2) w := by kernel_rfl
theorem parts_pe (a : Addr) (w : World) : (ReflectliteValue.parts (.agg #[.pointer (some ⟨9, 60, none⟩), .pointer (some a), .int .u64 150])).run Tryz.prog w = .ok (some (60, a, 150)) w := by kernel_rfl
theorem isNil_pe (a p : Addr) (W : World) (ha : W.cell? a = some (.pointer (some p))) :
    (ReflectliteValue.method (ReflectliteValue.valueError "reflectlite.Value.IsNil" 0) ReflectliteValue.isNil #[.agg #[.pointer (some ⟨9, 60, none⟩), .pointer (some a), .int .u64 150]]).run Tryz.prog W = .ok (.bool false) W := by
  rw [rlm]
  simp only [Sem.run_bind, parts_pe, Result.andThen]
  simp [ReflectliteValue.isNil, loadVar, isAgg, underlying, Tryz.underlying60, ha, Result.andThen]
theorem elem_pe (w : World) : (ReflectliteType.method ReflectliteType.elem #[.agg #[.pointer (some ⟨9, 60, none⟩)]]).run Tryz.prog w = .ok (.iface 181 (.agg #[.pointer (some ⟨9, 58, none⟩)])) w := by kernel_rfl
theorem impl_pe (w : World) : (ReflectliteType.relation "Implements" ReflectliteType.implements_ #[.agg #[.pointer (some ⟨9, 58, none⟩)], .iface 181 (.agg #[.pointer (some ⟨9, 25, none⟩)])]).run Tryz.prog w = .ok (.bool true) w := by kernel_rfl

theorem assign_e (w : World) : (ReflectliteType.relation "AssignableTo" ReflectliteType.assignableTo #[.agg #[.pointer (some ⟨9, 58, none⟩)], .iface 181 (.agg #[.pointer (some ⟨9, 58, none⟩)])]).run Tryz.prog w = .ok (.bool true) w := by kernel_rfl
theorem valueOf_e (n : Int) (w : World) : (ReflectliteValue.unpack (.iface 58 (.int .i64 n))).run Tryz.prog w = .ok (.agg #[.pointer (some ⟨9, 58, none⟩), .pointer (some ⟨w.heap.size, 0, none⟩), .int .u64 130]) (w.alloc (.cells #[.int .i64 n] 58)) := by kernel_rfl
theorem elemOf_pe (w : World) : (Rtype.elem? 60).run Tryz.prog w = .ok (some 58) w := by kernel_rfl
theorem mk_e (p : Addr) (w : World) : (ReflectliteValue.mk 58 p ReflectliteValue.flagAddr).run Tryz.prog w = .ok (.agg #[.pointer (some ⟨9, 58, none⟩), .pointer (some p), .int .u64 386]) w := by kernel_rfl
theorem elemV_pe (a p : Addr) (W : World) (ha : W.cell? a = some (.pointer (some p))) :
    (ReflectliteValue.method (ReflectliteValue.valueError "reflectlite.Value.Elem" 0) ReflectliteValue.elem #[.agg #[.pointer (some ⟨9, 60, none⟩), .pointer (some a), .int .u64 150]]).run Tryz.prog W = .ok (.agg #[.pointer (some ⟨9, 58, none⟩), .pointer (some p), .int .u64 386]) W := by
  rw [rlm]
  simp only [Sem.run_bind, parts_pe, Result.andThen]
  simp [ReflectliteValue.elem, loadVar, isAgg, underlying, Tryz.underlying60, ha, Result.andThen, elemOf_pe, mk_e]
theorem rls (v x : Value) : ReflectliteValue.set #[v, x] = (do
    let (some (dst, a, fl), some (src, b, _)) := (← ReflectliteValue.parts v, ← ReflectliteValue.parts x)
      | unsupported (.noEntry "extern/(internal/reflectlite.Value).Set.zeroValue")
    if fl / ReflectliteValue.flagAddr % 2 == 0 then unsupported (.noEntry "extern/(internal/reflectlite.Value).Set.unaddressable")
    let val ← loadVar src b
    if ← Rtype.directlyAssignable dst src then storeVar dst a val
    else if ← Rtype.implements dst src then
      if (← Rtype.kind src) == 20 then
        match val with
        | .nilIface => unsupported (.noEntry "extern/reflectlite: a nil value of one interface type handed on as a value of another")
        | _ => storeVar dst a val
      else storeVar dst a (.iface src val)
    else panicString ("reflectlite.Set: value of type " ++ (← Rtype.spelt src) ++ " is not assignable to type " ++ (← Rtype.spelt dst))
    pure (.tuple #[])) := rfl
theorem parts_ea (a : Addr) (w : World) : (ReflectliteValue.parts (.agg #[.pointer (some ⟨9, 58, none⟩), .pointer (some a), .int .u64 386])).run Tryz.prog w = .ok (some (58, a, 386)) w := by kernel_rfl
theorem parts_e (a : Addr) (w : World) : (ReflectliteValue.parts (.agg #[.pointer (some ⟨9, 58, none⟩), .pointer (some a), .int .u64 130])).run Tryz.prog w = .ok (some (58, a, 130)) w := by kernel_rfl
theorem direct_e (w : World) : (Rtype.directlyAssignable 58 58).run Tryz.prog w = .ok true w := by kernel_rfl
theorem set_e (ta b : Addr) (n : Int) (old : Value) (W : World) (hb : W.cell? b = some (.int .i64 n)) (ht : W.cell? ta = some old) (hf : W.frozen? ta = false) :
    (ReflectliteValue.set #[.agg #[.pointer (some ⟨9, 58, none⟩), .pointer (some ta), .int .u64 386], .agg #[.pointer (some ⟨9, 58, none⟩), .pointer (some b), .int .u64 130]]).run Tryz.prog W = .ok (.tuple #[]) (W.setCell ta (.int .i64 n)) := by
  rw [rls]
  simp only [Sem.run_bind, parts_ea, parts_e, Result.andThen]
  simp [ReflectliteValue.flagAddr, loadVar, isAgg, underlying, Tryz.underlying58, hb, Result.andThen, direct_e, storeVar, Value.cells, storeCells, Addr.add]
  rw [run_store Tryz.prog W ta _ _ (by rfl)]
  simp [ht, hf]
theorem as_nil (t : Value) (w : World) : Calls Tryz.prog 13 #[.nilIface, t] w fun e w' => e = .returned (.bool false) ∧ w' = w := by
  go_enter Tryz.func13, Tryz.ntmps13
  go_wp2
  go_ret
  exact ⟨rfl, rfl⟩
set_option maxRecDepth 8000 in
set_option maxHeartbeats 4000000 in
theorem as_errno_w (n : Int) (old : Value) (tb : Nat) (w : World) (hE : Et w) (ht0 : w.cell? ⟨tb, 0, none⟩ = some old) (hf0 : w.frozen? ⟨tb, 0, none⟩ = false) :
    Calls Tryz.prog 13 #[.iface 58 (.int .i64 n), .iface 60 (.pointer (some ⟨tb, 0, none⟩))] w fun e w' => e = .returned (.bool true) ∧ w' = ((((w.alloc (.cells #[.pointer (some ⟨tb, 0, none⟩)] 60)).alloc (.cells #[.pointer (some ⟨9, 60, none⟩), .pointer (some ⟨w.heap.size, 0, none⟩), .int .u64 150] 95)).alloc (.cells #[.pointer (some ⟨9, 60, none⟩), .pointer (some ⟨w.heap.size, 0, none⟩), .int .u64 150] 95)).alloc (.cells #[.int .i64 n] 58)).setCell ⟨tb, 0, none⟩ (.int .i64 n) := by
  have x1 := @run_callFunc_extern Tryz.prog 29 _ (fun args => ReflectliteValue.unpack (args.getD 0 (.tuple #[]))) Tryz.func29 (by kernel_rfl) (by kernel_rfl) (by kernel_rfl) (by kernel_rfl)
  have x2 := @run_callFunc_extern Tryz.prog 30 _ (ReflectliteValue.methodAny (ReflectliteValue.valueError "reflectlite.Value.Type" 0) (fun t _ _ _ => ReflectliteType.toType t)) Tryz.func30 (by kernel_rfl) (by kernel_rfl) (by kernel_rfl) (by kernel_rfl)
  have x3 := @run_callFunc_extern Tryz.prog 31 _ (ReflectliteValue.method (ReflectliteValue.valueError "reflectlite.Value.IsNil" 0) ReflectliteValue.isNil) Tryz.func31 (by kernel_rfl) (by kernel_rfl) (by kernel_rfl) (by kernel_rfl)
  have x4 := @run_callFunc_extern Tryz.prog 392 _ (ReflectliteType.abiMethod fun t => do pure (.int .u8 (← Rtype.kind t))) Tryz.func392 (by kernel_rfl) (by kernel_rfl) (by kernel_rfl) (by kernel_rfl)
  have x5 := @run_callFunc_extern Tryz.prog 408 _ (ReflectliteType.method ReflectliteType.elem) Tryz.func408 (by kernel_rfl) (by kernel_rfl) (by kernel_rfl) (by kernel_rfl)
  have x6 := @run_callFunc_extern Tryz.prog 409 _ (ReflectliteType.relation "Implements" ReflectliteType.implements_) Tryz.func409 (by kernel_rfl) (by kernel_rfl) (by kernel_rfl) (by kernel_rfl)
  have x7 := @run_callFunc_extern Tryz.prog 72 _ ReflectliteType.typeOf Tryz.func72 (by kernel_rfl) (by kernel_rfl) (by kernel_rfl) (by kernel_rfl)
  have x8 := @run_callFunc_extern Tryz.prog 406 _ (ReflectliteType.relation "AssignableTo" ReflectliteType.assignableTo) Tryz.func406 (by kernel_rfl) (by kernel_rfl) (by kernel_rfl) (by kernel_rfl)
  have x9 := @run_callFunc_extern Tryz.prog 73 _ (ReflectliteValue.method (ReflectliteValue.valueError "reflectlite.Value.Elem" 0) ReflectliteValue.elem) Tryz.func73 (by kernel_rfl) (by kernel_rfl) (by kernel_rfl) (by kernel_rfl)
  have x10 := @run_callFunc_extern Tryz.prog 74 _ ReflectliteValue.set Tryz.func74 (by kernel_rfl) (by kernel_rfl) (by kernel_rfl) (by kernel_rfl)
  have t1 := e_typeOf
  have t2 := m_Kind
  have t3 := m_Elem
  have t4 := m_Implements
  have t5 := m_AssignableTo
  have f1 := valueOf_pe
  have f2 := type_pe
  have f3 := kindP_pe
  have f4 := kindE_pe
  have f5 := elem_pe
  have f6 := impl_pe
  have hlt : 0 < w.heap.size := hE.pos
  have htl : tb < w.heap.size := World.block_lt_of_cell? _ _ ht0
  have n8 := isNil_pe ⟨w.heap.size, 0, none⟩ ⟨tb, 0, none⟩ ((w.alloc (.cells #[.pointer (some ⟨tb, 0, none⟩)] 60)).alloc (.cells #[.pointer (some ⟨9, 60, none⟩), .pointer (some ⟨w.heap.size, 0, none⟩), .int .u64 150] 95)) (by simp)
  have hg2 : ((w.alloc (.cells #[.pointer (some ⟨tb, 0, none⟩)] 60)).alloc (.cells #[.pointer (some ⟨9, 60, none⟩), .pointer (some ⟨w.heap.size, 0, none⟩), .int .u64 150] 95)).cell? ⟨0, 0, none⟩ = some (.iface 181 (.agg #[.pointer (some ⟨9, 25, none⟩)])) := by
    rw [World.cell?_alloc_lt _ _ ⟨0, 0, none⟩ (by simp), World.cell?_alloc_lt _ _ ⟨0, 0, none⟩ hlt]; exact hE
  have t6 := assign_e
  have t7 := valueOf_e
  have el := elemV_pe ⟨w.heap.size, 0, none⟩ ⟨tb, 0, none⟩ (((w.alloc (.cells #[.pointer (some ⟨tb, 0, none⟩)] 60)).alloc (.cells #[.pointer (some ⟨9, 60, none⟩), .pointer (some ⟨w.heap.size, 0, none⟩), .int .u64 150] 95)).alloc (.cells #[.pointer (some ⟨9, 60, none⟩), .pointer (some ⟨w.heap.size, 0, none⟩), .int .u64 150] 95)) (by rw [World.cell?_alloc_lt _ _ ⟨w.heap.size, 0, none⟩ (by simp; omega)]; simp)
  have st := set_e ⟨tb, 0, none⟩ ⟨w.heap.size + 1 + 1 + 1, 0, none⟩ n old ((((w.alloc (.cells #[.pointer (some ⟨tb, 0, none⟩)] 60)).alloc (.cells #[.pointer (some ⟨9, 60, none⟩), .pointer (some ⟨w.heap.size, 0, none⟩), .int .u64 150] 95)).alloc (.cells #[.pointer (some ⟨9, 60, none⟩), .pointer (some ⟨w.heap.size, 0, none⟩), .int .u64 150] 95)).alloc (.cells #[.int .i64 n] 58))
    (by rw [World.cell?_alloc_at _ _ _ _ (by simp)]; rfl)
    (by rw [World.cell?_alloc_lt _ _ _ (by simp; omega), World.cell?_alloc_lt _ _ _ (by simp; omega), World.cell?_alloc_lt _ _ _ (by simp; omega), World.cell?_alloc_lt _ _ _ htl]; exact ht0)
    (by rw [World.frozen?_alloc_old _ _ _ (by simp; omega), World.frozen?_alloc_old _ _ _ (by simp; omega), World.frozen?_alloc_old _ _ _ (by simp; omega), World.frozen?_alloc_old _ _ _ (Nat.ne_of_lt htl)]; exact hf0)
  unfold Et at hE
  go_enter Tryz.func13, Tryz.ntmps13
  go_wp2
  refine wp_loop_rounds 1 ?_
  rw [rounds_succ]
  go_wp2
  go_ret
  exact ⟨rfl, rfl⟩
/-- errors.As(n, &code). -/
theorem as_errno {B : Nat} {w0 w : World} {F : HP} {tb : Nat} {old : Value} (n : Int) (h : Sat B w0 w (blk tb (.cells #[old] 58) • F)) (hE : Et w) :
    Calls Tryz.prog 13 #[.iface 58 (.int .i64 n), .iface 60 (.pointer (some ⟨tb, 0, none⟩))] w fun e w' => e = .returned (.bool true) ∧ Sat B w0 w' (blk tb (.cells #[.int .i64 n] 58) • F) := by
  refine (as_errno_w n old tb w hE (by simp [World.cell?, h.heap]) (by simp [World.frozen?, h.heap])).mono ?_
  rintro e w' ⟨he, hw⟩
  refine ⟨he, ?_⟩
  subst hw
  exact ((((h.alloc_ _).alloc_ _).alloc_ _).alloc_ _).setCell
end Go.Proofs.YtdcekoocnoackaaGreatDoor

/-! Errors by their numbers: fault.Code, and the help's Bare and Is. -/
namespace Go.Proofs.YtdcekoocnoackaaGreatDoor
open Go Go.RowKit

/-- An error by its number; 0: none. -/
def errV (n : Int) : Value := if n = 0 then .nilIface else .iface 58 (.int .i64 n)
theorem errV_zero : errV 0 = .nilIface := rfl
theorem errV_ne {n : Int} (h : n ≠ 0) : errV n = .iface 58 (.int .i64 n) := by unfold errV; rw [if_neg h]
/-- What the help says of an error without a place. -/
def failV (c : Int) : Value := .agg #[.int .i64 c, .int .i64 0, .bool false]
set_option maxRecDepth 8000 in
set_option maxHeartbeats 1000000 in
/-- errors.Is(e, c). -/
theorem eis_any (n c : Int) (hc : c ≠ 0) (w : World) : Calls Tryz.prog 71 #[errV n, .iface 58 (.int .i64 c)] w fun e w' => e = .returned (.bool (n == c)) ∧ w' = w := by
  by_cases h : n = 0
  · subst h
    rw [errV_zero]
    have : ((0 : Int) == c) = false := by simpa using Ne.symm hc
    rw [this]
    exact is_nil c w
  · rw [errV_ne h]
    exact is_errno n c w
set_option maxRecDepth 8000 in
set_option maxHeartbeats 1000000 in
theorem code_any (n : Int) (w : World) (hE : Et w) : Calls Tryz.prog 137 #[errV n] w fun e w' => e = .returned (.int .i64 n) ∧ Below w.heap.size w w' := by
  have hb1 : Below w.heap.size w (w.alloc (.cells #[.int .i64 0] 58)) := (Below.refl _ _).alloc (Nat.le_refl _) _
  by_cases h : n = 0
  · subst h
    rw [errV_zero]
    go_enter Tryz.func137, Tryz.ntmps137
    go_wp2_with fail
    refine (as_nil _ _).mono ?_
    rintro e w1 ⟨rfl, rfl⟩
    go_wp2_with fail
    go_ret
    exact ⟨rfl, hb1⟩
  · rw [errV_ne h]
    have hS := (Sat.start w).alloc (.cells #[.int .i64 0] 58)
    have hE1 := hE.below hb1
    have H := Lib.hid h
    clear h
    go_enter Tryz.func137, Tryz.ntmps137
    go_wp2_with fail
    refine (as_errno n hS hE1).mono ?_
    rintro e w1 ⟨rfl, hS1⟩
    have hl := run_loadAt_one (P := Tryz.prog) (o := 0) (ty := 58) (v := .int .i64 n) hS1.heap Tryz.underlying58 rfl rfl
    go_wp2_with (refine wpList_load_run (t := 58) rfl rfl rfl hl ?_)
    go_ret
    exact ⟨rfl, hS1.below⟩
set_option maxRecDepth 8000 in
set_option maxHeartbeats 1000000 in
theorem bare_any (c : Int) (w : World) : Calls Tryz.prog 34 #[.int .i64 c] w fun e w' => e = .returned (failV c) ∧ Below w.heap.size w w' := by
  have hst : ∀ (W : World) (z : Array Value), z.size = 3 → (Instr.storeAt 75 (.pointer (some ⟨W.heap.size, 0, none⟩)) (failV c)).run Tryz.prog (W.alloc (.cells z 75)) = .ok () (W.alloc (.cells #[.int .i64 c, .int .i64 0, .bool false] 75)) :=
    fun W z hz => run_storeAt_new (v := failV c) (by kernel_rfl) (by simp only [failV, Value.cells]; exact hz) (by simp [failV, Value.cells, Value.oneCell'])
  go_enter Tryz.func34, Tryz.ntmps34
  go_wp2_with (refine wpList_store_run (t := 75) rfl rfl rfl rfl (hst _ _ rfl) ?_)
  refine ret_cell rfl rfl (run_loadAt_row (cs := [.int .i64 c, .int .i64 0, .bool false]) (heap_alloc_new _ _) Tryz.underlying75 rfl (by kernel_rfl) (fun j u hu => by simpa using hu)) rfl ⟨rfl, (Below.refl _ _).alloc (Nat.le_refl _) _⟩
end Go.Proofs.YtdcekoocnoackaaGreatDoor

/-! What a queue holds, in plain words. -/
namespace Go.Proofs.YtdcekoocnoackaaGreatDoor

def Nd (S : List Ent) : Prop := (S.map (·.id)).Nodup
def hasId (S : List Ent) (id : Int) : Bool := S.any fun e => e.id == id
def withDue (S : List Ent) (id a : Int) : List Ent := S.map fun e => if e.id = id then ⟨id, a⟩ else e
def without (S : List Ent) (id : Int) : List Ent := S.filter fun e => e.id != id
def dueAt (S : List Ent) (id : Int) : Option Int := (S.find? fun e => e.id == id).map (·.due)
def minE : List Ent → Option Ent
  | [] => none
  | e :: r => match minE r with
    | none => some e
    | some m => some (if m.lt e then m else e)
def dueL : Nat → List Ent → Int → List Ent × List Ent
  | 0, S, _ => ([], S)
  | k + 1, S, now => match minE S with
    | none => ([], S)
    | some m => if now < m.due then ([], S) else (m :: (dueL k (without S m.id) now).1, (dueL k (without S m.id) now).2)

theorem g_mem {L : List Ent} {i : Nat} (h : i < L.length) : Hp.g L i ∈ L := List.mem_of_getElem? (g_get h)
theorem mem_g {L : List Ent} {x : Ent} (h : x ∈ L) : ∃ i, i < L.length ∧ Hp.g L i = x := by
  obtain ⟨i, hi⟩ := List.mem_iff_getElem?.1 h
  have hl := (List.getElem?_eq_some_iff.1 hi).1
  exact ⟨i, hl, Option.some.inj ((g_get hl).symm.trans hi)⟩
theorem Nd.perm {L S : List Ent} (h : Nd L) (p : L.Perm S) : Nd S := (p.map _).nodup_iff.1 h
theorem IsIdx.nd {L : List Ent} {f : Int → Option Int} (h : IsIdx L f) : Nd L := by
  unfold Nd
  rw [List.nodup_iff_pairwise_ne, List.pairwise_map, List.pairwise_iff_getElem]
  intro i j hi hj hij e
  have e1 : L[i] = Hp.g L i := by rw [← Option.some_inj, ← g_get hi, List.getElem?_eq_getElem hi]
  have e2 : L[j] = Hp.g L j := by rw [← Option.some_inj, ← g_get hj, List.getElem?_eq_getElem hj]
  rw [e1, e2] at e
  have := h.inj hi hj e
  omega
theorem hasId_perm {L S : List Ent} (p : L.Perm S) (id : Int) : hasId L id = hasId S id := by
  unfold hasId
  rw [Bool.eq_iff_iff, List.any_eq_true, List.any_eq_true]
  constructor
  · rintro ⟨x, h1, h2⟩; exact ⟨x, p.mem_iff.1 h1, h2⟩
  · rintro ⟨x, h1, h2⟩; exact ⟨x, p.mem_iff.2 h1, h2⟩
theorem IsIdx.has {L : List Ent} {f : Int → Option Int} (h : IsIdx L f) (id : Int) : (f id).isSome = hasId L id := by
  unfold hasId
  cases hf : f id with
  | none =>
    symm
    rw [Option.isSome_none, List.any_eq_false]
    intro x hx e
    obtain ⟨i, hi, rfl⟩ := mem_g hx
    have := (h id i).2 ⟨i, rfl, hi, by simpa using e⟩
    rw [hf] at this; cases this
  | some n =>
    symm
    rw [Option.isSome_some, List.any_eq_true]
    obtain ⟨i, _, hi, e⟩ := (h id n).1 hf
    exact ⟨_, g_mem hi, by simpa using e⟩
theorem without_of {g : Ent} {R L : List Ent} (h : Nd L) (p : (g :: R).Perm L) : R.Perm (without L g.id) := by
  have h1 := p.filter (fun e => e.id != g.id)
  have hn : Nd (g :: R) := h.perm p.symm
  unfold Nd at hn
  rw [List.map_cons, List.nodup_cons] at hn
  have h2 : (g :: R).filter (fun e => e.id != g.id) = R := by
    rw [List.filter_cons]
    simp only [bne_self_eq_false, Bool.false_eq_true, if_false]
    rw [List.filter_eq_self]
    intro x hx
    rw [bne_iff_ne]
    intro e
    exact hn.1 (List.mem_map.2 ⟨x, hx, e⟩)
  rw [h2] at h1
  exact h1
theorem without_perm {L S : List Ent} (p : L.Perm S) (id : Int) : (without L id).Perm (without S id) := p.filter _
theorem withDue_perm {L S : List Ent} (p : L.Perm S) (id a : Int) : (withDue L id a).Perm (withDue S id a) := p.map _
theorem withDue_set {L : List Ent} {f : Int → Option Int} (h : IsIdx L f) {i : Nat} (hi : i < L.length) (a : Int) : L.set i ⟨(Hp.g L i).id, a⟩ = withDue L (Hp.g L i).id a := by
  apply List.ext_getElem?
  intro j
  unfold withDue
  rw [List.getElem?_set, List.getElem?_map]
  by_cases e : i = j
  · subst e
    rw [if_pos rfl, if_pos hi, g_get hi]
    simp
  · rw [if_neg e]
    by_cases hj : j < L.length
    · rw [g_get hj]
      simp only [Option.map_some, Option.some.injEq]
      rw [if_neg]
      intro e2
      exact e (h.inj hi hj e2.symm)
    · rw [List.getElem?_eq_none (by omega)]; rfl
theorem withDue_length (S : List Ent) (id a : Int) : (withDue S id a).length = S.length := by simp [withDue]
theorem without_length (S : List Ent) (id : Int) : (without S id).length ≤ S.length := List.length_filter_le _ _
theorem dueAt_of {S : List Ent} (h : Nd S) {x : Ent} (hx : x ∈ S) : dueAt S x.id = some x.due := by
  unfold dueAt
  induction S with
  | nil => cases hx
  | cons e r ih =>
    unfold Nd at h
    rw [List.map_cons, List.nodup_cons] at h
    rw [List.find?_cons]
    rcases List.mem_cons.1 hx with rfl | hx
    · simp
    · have : (e.id == x.id) = false := by
        simp only [beq_eq_false_iff_ne]
        intro e1
        exact h.1 (List.mem_map.2 ⟨x, hx, e1.symm⟩)
      rw [this]
      exact ih h.2 hx
end Go.Proofs.YtdcekoocnoackaaGreatDoor

/-! The queue. -/
namespace Go.Proofs.YtdcekoocnoackaaGreatDoor
open Go Go.RowKit

def queue (q room : Nat) (S : List Ent) : HP := hex fun (x : Nat × List Ent) => lift (Hp.Is x.2 x.2.length ∧ x.2.Perm S ∧ S.length ≤ room ∧ room ≤ 1000)
  (blk q (.cells #[.pointer (some ⟨x.1, 0, none⟩), .int .i64 room] 200) • pile x.1 x.2)
section
variable {B : Nat} {w0 w w' : World} {F : HP} {p q room : Nat} {L S : List Ent}
theorem Sat.queue_open (h : Sat B w0 w (queue q room S • F)) : ∃ p L, Hp.Is L L.length ∧ L.Perm S ∧ S.length ≤ room ∧ room ≤ 1000 ∧
    Sat B w0 w (blk q (.cells #[.pointer (some ⟨p, 0, none⟩), .int .i64 room] 200) • pile p L • F) := by
  unfold queue at h
  rw [hex_star] at h
  obtain ⟨⟨p, L⟩, h⟩ := h.ex
  rw [lift_star] at h
  obtain ⟨⟨h1, h2, h3, h4⟩, h⟩ := h.lift
  rw [star_assoc] at h
  exact ⟨p, L, h1, h2, h3, h4, h⟩
theorem Sat.queue_shut (h1 : Hp.Is L L.length) (h2 : L.Perm S) (h3 : S.length ≤ room) (h4 : room ≤ 1000)
    (h : Sat B w0 w (blk q (.cells #[.pointer (some ⟨p, 0, none⟩), .int .i64 room] 200) • pile p L • F)) : Sat B w0 w (queue q room S • F) := by
  unfold queue
  rw [hex_star]
  refine Sat.ex_mk (⟨p, L⟩ : Nat × List Ent) ?_
  rw [lift_star]
  refine Sat.lift_mk ⟨h1, h2, h3, h4⟩ ?_
  rw [star_assoc]
  exact h
theorem Sat.pile_idx (h : Sat B w0 w (pile p L • F)) : ∃ f, IsIdx L f := by
  obtain ⟨v, mb, f, hi, _⟩ := h.pile_open
  exact ⟨f, hi⟩
theorem Sat.queue_len (h : Sat B w0 w (queue q room S • F)) : S.length ≤ room ∧ room ≤ 1000 := by
  obtain ⟨p, L, h1, h2, h3, h4, hS⟩ := h.queue_open
  exact ⟨h3, h4⟩
theorem int_zero (w : World) : (zeroValue 3).run Tryz.prog w = .ok (.int .i64 0) w := by kernel_rfl

theorem qLen_any (h : Sat B w0 w (queue q room S • F)) : Calls Tryz.prog 269 #[.pointer (some ⟨q, 0, none⟩)] w fun e w' => e = .returned (.int .i64 S.length) ∧ w' = w := by
  obtain ⟨p, L, h1, h2, h3, h4, hS⟩ := h.queue_open
  have c1 := pileLen_any hS.pull2
  rw [h2.length_eq] at c1
  have d1 : w.cell? ⟨q, 0, none⟩ = some (.pointer (some ⟨p, 0, none⟩)) := by simp [World.cell?, hS.heap]
  clear h hS h2
  go_enter Tryz.func269, Tryz.ntmps269
  go_wp2_with fail
  refine c1.mono ?_
  rintro e w1 ⟨rfl, rfl⟩
  go_wp2_with fail
  go_ret
  exact ⟨rfl, rfl⟩
set_option maxRecDepth 8000 in
set_option maxHeartbeats 1000000 in
theorem place_no (h : Sat B w0 w (blk q (.cells #[.pointer (some ⟨p, 0, none⟩), .int .i64 room] 200) • pile p L • F)) {id : Int} (hid : hasId L id = false) :
    Calls Tryz.prog 170 #[.pointer (some ⟨q, 0, none⟩), .int .i64 id] w fun e w' => e = .returned (.tuple #[.int .i64 0, errV 20]) ∧ w' = w := by
  obtain ⟨v, mb, f, hi, hS⟩ := h.pull2.pile_open
  have hf := hi.has id
  rw [hid] at hf
  have hf2 : f id = none := by simpa using hf
  have hrun := hS.pull3.run_lookup (P := Tryz.prog) (mt := 195) (k := id) Tryz.underlying195 Tryz.underlying3 int_zero true
  rw [hf2] at hrun
  have d1 : w.cell? ⟨q, 0, none⟩ = some (.pointer (some ⟨p, 0, none⟩)) := by simp [World.cell?, h.heap]
  have d2 : w.cell? ⟨p, 1, none⟩ = some (.map (some mb)) := by simp [World.cell?, hS.heap]
  clear h hS hf hf2 hi hid
  go_enter Tryz.func170, Tryz.ntmps170
  go_wp2_with (refine wpList_lookup_run rfl rfl rfl rfl hrun ?_)
  go_ret2
  exact ⟨rfl, rfl⟩
set_option maxRecDepth 8000 in
set_option maxHeartbeats 1000000 in
theorem place_yes (h : Sat B w0 w (blk q (.cells #[.pointer (some ⟨p, 0, none⟩), .int .i64 room] 200) • pile p L • F)) {i : Nat} (hi : i < L.length) :
    Calls Tryz.prog 170 #[.pointer (some ⟨q, 0, none⟩), .int .i64 (Hp.g L i).id] w fun e w' => e = .returned (.tuple #[.int .i64 i, errV 0]) ∧ w' = w := by
  obtain ⟨v, mb, f, hx, hS⟩ := h.pull2.pile_open
  have hf2 : f (Hp.g L i).id = some (i : Int) := (hx _ _).2 ⟨i, rfl, hi, rfl⟩
  have hrun := hS.pull3.run_lookup (P := Tryz.prog) (mt := 195) (k := (Hp.g L i).id) Tryz.underlying195 Tryz.underlying3 int_zero true
  rw [hf2] at hrun
  have d1 : w.cell? ⟨q, 0, none⟩ = some (.pointer (some ⟨p, 0, none⟩)) := by simp [World.cell?, h.heap]
  have d2 : w.cell? ⟨p, 1, none⟩ = some (.map (some mb)) := by simp [World.cell?, hS.heap]
  clear h hS hf2 hx hi
  go_enter Tryz.func170, Tryz.ntmps170
  go_wp2_with (refine wpList_lookup_run rfl rfl rfl rfl hrun ?_)
  go_ret2
  exact ⟨rfl, rfl⟩
theorem hasId_g {id : Int} (hid : hasId L id = true) : ∃ i, i < L.length ∧ (Hp.g L i).id = id := by
  unfold hasId at hid
  rw [List.any_eq_true] at hid
  obtain ⟨x, hx, e⟩ := hid
  obtain ⟨i, hi, rfl⟩ := mem_g hx
  exact ⟨i, hi, by simpa using e⟩
/-- expiry.New. -/
def roomOf (n : Int) : Nat := (min (max n 0) 1000).toNat
set_option maxRecDepth 8000 in
set_option maxHeartbeats 1000000 in
theorem qNew_any (n : Int) (h : Sat B w0 w F) : Calls Tryz.prog 33 #[.int .i64 n] w fun e w' => ∃ q, e = .returned (.pointer (some ⟨q, 0, none⟩)) ∧ Sat B w0 w' (queue q (roomOf n) [] • F) := by
  have hr : ((roomOf n : Nat) : Int) = min (max n 0) 1000 := by unfold roomOf; omega
  have hmm := @run_makeMap Tryz.prog
  have h1 := mp_new h
  have h2 := h1.alloc (.cells #[.slice none 0 0, .map (some w.heap.size)] 198)
  have h3 := h2.alloc (.cells #[.pointer (some ⟨w.heap.size + 1, 0, none⟩), .int .i64 (roomOf n)] 200)
  have e1 : (w.alloc (.map #[] 0)).heap.size = w.heap.size + 1 := by simp
  have e2 : ((w.alloc (.map #[] 0)).alloc (.cells #[.slice none 0 0, .map (some w.heap.size)] 198)).heap.size = w.heap.size + 1 + 1 := by simp
  rw [e1, e2] at h3
  have h4 := arr_nil (e := 332) (sz := 2) h3
  have h5 : Sat B w0 _ (pile (w.heap.size + 1) [] • blk (w.heap.size + 1 + 1) (.cells #[.pointer (some ⟨w.heap.size + 1, 0, none⟩), .int .i64 (roomOf n)] 200) • F) :=
    Sat.pile_shut (v := .slice none 0 0) (mb := w.heap.size) IsIdx.nil (h4.to (by
      show arr 332 2 (.slice none 0 0) 0 [] • blk (w.heap.size + 1 + 1) _ • blk (w.heap.size + 1) _ • mp w.heap.size _ • F = blk (w.heap.size + 1) _ • arr 332 2 (.slice none 0 0) 0 [] • mp w.heap.size _ • blk (w.heap.size + 1 + 1) _ • F
      ac_rfl))
  have h6 := Sat.queue_shut (S := []) (room := roomOf n) (fun k hk hk2 => absurd hk2 (by simp)) (List.Perm.refl _) (Nat.zero_le _) (by unfold roomOf; omega) h5.pull2
  have H6 := Lib.hid h6
  have HR := Lib.hid hr
  clear h h1 h2 h3 h4 h5 h6 e1 e2 hr
  go_enter Tryz.func33, Tryz.ntmps33
  go_wp2_with fail
  go_ret
  refine ⟨w.heap.size + 1 + 1, rfl, ?_⟩
  have := H6.out
  rw [HR.out] at this
  exact this
end
end Go.Proofs.YtdcekoocnoackaaGreatDoor
