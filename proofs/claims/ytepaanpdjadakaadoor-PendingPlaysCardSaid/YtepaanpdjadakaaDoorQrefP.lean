import Derived.Test.YtepaanpdjadakaaDoorQrefD
import Derived.Test.YtepaanpdjadakaaDoorPend5
/-! The reference's pending queries: the parts of Add. -/
namespace Go.Proofs.YtepaanpdjadakaaDoor
open Go Go.RowKit

section
variable {B : Nat} {w0 w w' : World} {F : HP} {b : Nat} {n : Int} {R : List (Itm Qry)} {v u : Value}
theorem setKey_set {k : Nat} {x : Itm Qry} {q : Qry} (hn : (R.map (·.key)).Nodup) (h : R[k]? = some x) (hq : x.key = q) (u : Int) : setKey R q u = R.set k { x with due := u } := by
  have hk := (List.getElem?_eq_some_iff.1 h).1
  unfold setKey
  apply List.ext_getElem?
  intro j
  rw [List.getElem?_map]
  by_cases e : k = j
  · subst e
    rw [List.getElem?_set_self hk, h]
    simp [hq]
  · rw [List.getElem?_set_ne e]
    cases hy : R[j]? with
    | none => rfl
    | some y =>
      have hne : ¬ y.key = q := fun h2 => e (by
        have h1 : (R.map (·.key))[k]? = (R.map (·.key))[j]? := by rw [List.getElem?_map, List.getElem?_map, h, hy]; simp [hq, h2]
        exact (List.getElem?_inj (by simpa using hk) hn).1 h1)
      simp [hne]
theorem setKey_kc (R : List (Itm Qry)) (q : Qry) (u : Int) : (setKey R q u).flatMap keyC = R.flatMap keyC := by
  unfold setKey
  rw [List.flatMap_map]
  congr 1
  funext x
  by_cases e : x.key = q <;> simp [e, keyC]
theorem due_map (R : List (Itm Qry)) : R.flatMap dueC = R.map fun x => .int .u64 x.due := by
  induction R with
  | nil => rfl
  | cons x R ih => rw [List.flatMap_cons, ih]; rfl
theorem set_dues {cur : Array Value} {k : Nat} {x : Itm Qry} (h : cur.toList.take (R.length * 1) = R.flatMap dueC) (u : Int) : (cur.setIfInBounds k (.int .u64 u)).toList.take (R.length * 1) = (R.set k { x with due := u }).flatMap dueC := by
  rw [Array.toList_setIfInBounds, List.take_set, h, due_map, due_map, List.map_set]
set_option maxHeartbeats 1000000 in
theorem qadd_parts (hl : R.length ≤ 1000) (q : Qry) (u : Int) {A A' : Option Addr} {c c' x0 : Nat} : ∃ (PB PX PL PU : HP) (P6 P9 P14 P17 : Option Addr → Nat → HP) (P8 P16 : Nat → HP) (PB1 : Option Addr → Nat → HP) (PB2 : Option Addr → Nat → Option Addr → Nat → HP),
    (∀ W G, Sat B w0 W (blk b (.cells #[.int .i64 n, .slice A R.length c, .slice A' R.length c'] 86) • blk x0 (.cells q.enc.toArray 67) • arr 67 40 (.slice A R.length c) R.length (R.flatMap keyC) • arr 23 1 (.slice A' R.length c') R.length (R.flatMap dueC) • G) → Sat B w0 W (PB • PX • PL • PU • G)) ∧
    (∀ W G, Sat B w0 W (PL • G) → ∃ A6 c6 W', (Builtin.append_ #[77, 77] 77 #[.slice none 0 0, .slice A R.length c]).run Tryd.prog W = .ok (.slice A6 R.length c6) W' ∧ Sat B w0 W' (P6 A6 c6 • PL • G)) ∧
    (∀ W G, Sat B w0 W G → Sat B w0 (W.alloc (.cells q.enc.toArray 67)) (P8 W.heap.size • G)) ∧
    (∀ W G A6 c6 g, Sat B w0 W (P6 A6 c6 • P8 g • G) → ∃ A9 c9 W', (Builtin.append_ #[77, 77] 77 #[.slice A6 R.length c6, .slice (some ⟨g, 0, none⟩) 1 1]).run Tryd.prog W = .ok (.slice A9 (R.length + 1) c9) W' ∧ Sat B w0 W' (P9 A9 c9 • P8 g • G)) ∧
    (∀ W G, Sat B w0 W (PU • G) → ∃ A6 c6 W', (Builtin.append_ #[22, 22] 22 #[.slice none 0 0, .slice A' R.length c']).run Tryd.prog W = .ok (.slice A6 R.length c6) W' ∧ Sat B w0 W' (P14 A6 c6 • PU • G)) ∧
    (∀ W G, Sat B w0 W G → Sat B w0 (W.alloc (.cells #[.int .u64 u] 23)) (P16 W.heap.size • G)) ∧
    (∀ W G A6 c6 g, Sat B w0 W (P14 A6 c6 • P16 g • G) → ∃ A9 c9 W', (Builtin.append_ #[22, 22] 22 #[.slice A6 R.length c6, .slice (some ⟨g, 0, none⟩) 1 1]).run Tryd.prog W = .ok (.slice A9 (R.length + 1) c9) W' ∧ Sat B w0 W' (P17 A9 c9 • P16 g • G)) ∧
    (∀ W G, Sat B w0 W (PB • PX • G) → W.cell? ⟨b, 1, none⟩ = some (.slice A R.length c) ∧ W.cell? ⟨b, 2, none⟩ = some (.slice A' R.length c') ∧ W.heap[x0]? = some (.cells q.enc.toArray 67)) ∧
    (∀ W G A9 c9, Sat B w0 W (PB • G) → ∃ W', (Instr.storeAt 77 (.pointer (some ⟨b, 1, none⟩)) (.slice A9 (R.length + 1) c9)).run Tryd.prog W = .ok () W' ∧ Sat B w0 W' (PB1 A9 c9 • G)) ∧
    (∀ W G A9 c9 A17 c17, Sat B w0 W (PB1 A9 c9 • G) → ∃ W', (Instr.storeAt 22 (.pointer (some ⟨b, 2, none⟩)) (.slice A17 (R.length + 1) c17)).run Tryd.prog W = .ok () W' ∧ Sat B w0 W' (PB2 A9 c9 A17 c17 • G)) ∧
    (∀ W G A9 c9 A17 c17 (next : Int), Sat B w0 W (PB2 A9 c9 A17 c17 • P9 A9 c9 • P17 A17 c17 • G) → Sat B w0 W (qref b n (R ++ [⟨q, next, u⟩]) • G)) := by
  obtain ⟨zq, hz1, hz2, hz3⟩ := qry_zero
  refine ⟨blk b (.cells #[.int .i64 n, .slice A R.length c, .slice A' R.length c'] 86), blk x0 (.cells q.enc.toArray 67), arr 67 40 (.slice A R.length c) R.length (R.flatMap keyC), arr 23 1 (.slice A' R.length c') R.length (R.flatMap dueC),
    fun A6 c6 => arr 67 40 (.slice A6 R.length c6) R.length (R.flatMap keyC), fun A6 c6 => arr 67 40 (.slice A6 (R.length + 1) c6) (R.length + 1) (R.flatMap keyC ++ q.enc), fun A6 c6 => arr 23 1 (.slice A6 R.length c6) R.length (R.flatMap dueC), fun A6 c6 => arr 23 1 (.slice A6 (R.length + 1) c6) (R.length + 1) (R.flatMap dueC ++ [.int .u64 u]),
    fun g => arr 67 40 (.slice (some ⟨g, 0, none⟩) 1 1) 1 q.enc, fun g => arr 23 1 (.slice (some ⟨g, 0, none⟩) 1 1) 1 [.int .u64 u],
    fun A9 c9 => blk b (.cells #[.int .i64 n, .slice A9 (R.length + 1) c9, .slice A' R.length c'] 86), fun A9 c9 A17 c17 => blk b (.cells #[.int .i64 n, .slice A9 (R.length + 1) c9, .slice A17 (R.length + 1) c17] 86), ?_, ?_, ?_, ?_, ?_, ?_, ?_, ?_, ?_, ?_, ?_⟩
  · exact fun W G h => h
  · intro W G h
    obtain ⟨v1, w2, hr1, hA1⟩ := (arr_nil (e := 67) (sz := 40) h).append (m := R.length) (news := R.flatMap keyC) (t := 77) (ty := 77) (P := Tryd.prog) (x := .slice A R.length c) Tryd.underlying77 hz1 hz3 (by decide) h.arr_reads (flat_keyC R) (keyC_one R) (by unfold maxLen; omega) (by omega)
    rw [Nat.zero_add, List.nil_append] at hA1
    obtain ⟨A2, c2, rfl⟩ := hA1.arr_form
    exact ⟨A2, c2, w2, hr1, hA1⟩
  · intro W G h
    exact Sat.arr_shut (n := 1) (cap := 1) (sz := 40) (xs := q.enc) (by decide) (by decide) (by simp [Qry.enc_length]) (by rw [Nat.one_mul, ← Qry.enc_length q]; simp) (h.alloc (.cells q.enc.toArray 67))
  · intro W G A6 c6 g h
    obtain ⟨v1, w2, hr1, hA1⟩ := h.append (m := 1) (news := q.enc) (t := 77) (ty := 77) (P := Tryd.prog) (x := .slice (some ⟨g, 0, none⟩) 1 1) Tryd.underlying77 hz1 hz3 (by decide) h.pull2.arr_reads (by rw [Qry.enc_length]) q.enc_one (by unfold maxLen; omega) (by omega)
    obtain ⟨A2, c2, rfl⟩ := hA1.arr_form
    exact ⟨A2, c2, w2, hr1, hA1⟩
  · intro W G h
    obtain ⟨v1, w2, hr1, hA1⟩ := (arr_nil (e := 23) (sz := 1) h).append (m := R.length) (news := R.flatMap dueC) (t := 22) (ty := 22) (P := Tryd.prog) (x := .slice A' R.length c') Tryd.underlying22 u64_zero (by simp [Value.cells]) (by decide) h.arr_reads (flat_dueC R) (dueC_one R) (by unfold maxLen; omega) (by omega)
    rw [Nat.zero_add, List.nil_append] at hA1
    obtain ⟨A2, c2, rfl⟩ := hA1.arr_form
    exact ⟨A2, c2, w2, hr1, hA1⟩
  · intro W G h
    exact Sat.arr_shut (n := 1) (cap := 1) (sz := 1) (xs := [.int .u64 u]) (by decide) (by decide) (by simp) (by simp) (h.alloc (.cells #[.int .u64 u] 23))
  · intro W G A6 c6 g h
    obtain ⟨v1, w2, hr1, hA1⟩ := h.append (m := 1) (news := [.int .u64 u]) (t := 22) (ty := 22) (P := Tryd.prog) (x := .slice (some ⟨g, 0, none⟩) 1 1) Tryd.underlying22 u64_zero (by simp [Value.cells]) (by decide) h.pull2.arr_reads (by simp) (by simp [Value.oneCell']) (by unfold maxLen; omega) (by omega)
    obtain ⟨A2, c2, rfl⟩ := hA1.arr_form
    exact ⟨A2, c2, w2, hr1, hA1⟩
  · intro W G h
    exact ⟨cell_heap h.heap rfl, cell_heap h.heap rfl, h.pull2.heap⟩
  · intro W G A9 c9 h
    exact one_store (o := 1) (ty := 77) (u := .slice A9 (R.length + 1) c9) h (by kernel_rfl) (by simp) rfl rfl
  · intro W G A9 c9 A17 c17 h
    exact one_store (o := 2) (ty := 22) (u := .slice A17 (R.length + 1) c17) h (by kernel_rfl) (by simp) rfl rfl
  · intro W G A9 c9 A17 c17 next h
    refine Sat.qref_shut (v := .slice A9 (R.length + 1) c9) (u := .slice A17 (R.length + 1) c17) ?_
    rw [List.length_append, List.length_singleton, List.flatMap_append, List.flatMap_append, List.flatMap_singleton, List.flatMap_singleton]
    exact h
end
end Go.Proofs.YtepaanpdjadakaaDoor
