import Derived.Test.YtepaanpdjadakaaGreatDoorBase
/-! clear, on a slice of one's own. -/
namespace Go.Proofs.YtepaanpdjadakaaGreatDoor
open Go Go.RowKit

section
variable {B : Nat} {w0 w w' : World} {F : HP} {P : Program}
theorem zeroCells_mem {zero : Array Value} {n : Nat} {u : Value} (hz : 0 < zero.size) (h : u ∈ (Builtin.zeroCells zero n).toList) : u ∈ zero.toList := by
  unfold Builtin.zeroCells at h
  simp only [Array.toList_map, List.mem_map] at h
  obtain ⟨i, _, rfl⟩ := h
  have hlt : i % zero.size < zero.size := Nat.mod_lt _ hz
  rw [getElem!_pos zero (i % zero.size) hlt]
  simp
theorem zeroCells_len {zero : Array Value} {n : Nat} : (Builtin.zeroCells zero n).toList.length = n * zero.size := by
  simp [Builtin.zeroCells]
theorem splice_take {cur : Array Value} {o : Nat} {vs : List Value} (h : o ≤ cur.size) : (splice cur o vs).toList.take o = cur.toList.take o := by
  unfold splice
  simp only [List.append_assoc]
  rw [List.take_append_of_le_length (by simp; omega), List.take_take, Nat.min_self]
theorem Sat.run_clear {g o n c sz : Nat} {cur : Array Value} {t e ty : TypeId} {z : Value} (h : Sat B w0 w (blk g (.cells cur e (0, 0)) • F)) (ht : P.underlying t = some (.slice e)) (hz : ∀ w, (zeroValue e).run P w = .ok z w) (hzs : z.cells.size = sz) (hpos : 0 < sz)
    (h1 : ∀ u ∈ z.cells.toList, u.oneCell' = true) (hle : o + n * sz ≤ cur.size) :
    ∃ w' cur', (Builtin.clear_ #[t] ty #[.slice (some ⟨g, o, none⟩) n c]).run P w = .ok (.tuple #[]) w' ∧ Sat B w0 w' (blk g (.cells cur' e (0, 0)) • F) ∧ cur'.size = cur.size ∧ cur'.toList.take o = cur.toList.take o := by
  cases n with
  | zero =>
    refine ⟨w, cur, ?_, h, rfl, rfl⟩
    simp [Builtin.clear_, run_underlying ht]
  | succ n =>
    have hl : (Builtin.zeroCells z.cells (n + 1)).toList.length = (n + 1) * sz := by rw [zeroCells_len, hzs]
    have hst := run_storeCells_at (P := P) g o e (Builtin.zeroCells z.cells (n + 1)).toList 0 cur w h.heap (by rw [Nat.add_zero, hl]; exact hle) (fun u hu => h1 u (zeroCells_mem (by omega) hu))
    simp only [Nat.add_zero] at hst
    refine ⟨w.setRow g (splice cur o (Builtin.zeroCells z.cells (n + 1)).toList), splice cur o (Builtin.zeroCells z.cells (n + 1)).toList, ?_, h.setRow, splice_size (by rw [hl]; exact hle), splice_take (by omega)⟩
    simp only [Builtin.clear_, List.getElem?_toArray]
    simp [run_underlying ht, hz, hst, splice]
theorem wpList_clear_run {ops : Array Oper} {rest : List Oper} {o : Oper} {a : Act} {Q : Exit → Act → World → Prop} (hgd : o.guard = none) (s : Operand) (t : TypeId)
    (ho : o.op = .call { callee := .builtin .clear, args := #[s], argTypes := #[t] }) {vs : Value} (hs : a.eval s = vs)
    (hr : (Builtin.clear_ #[t] o.type #[vs]).run P w = .ok (.tuple #[]) w') (h : wpList P ops Q rest (a.put o.dst (.tuple #[])) w') : wpList P ops Q (o :: rest) a w := by
  refine wpList_plain hgd fun K hK => ?_
  unfold Oper.wp execOp
  simp only [ho, resolve, invoke, builtin, Sem.run_bind, Sem.run_pure, Result.andThen_ok, List.map_toArray, List.map_cons, List.map_nil, hs, hr]
  exact hK _ _ h
end
end Go.Proofs.YtepaanpdjadakaaGreatDoor
