import Derived.Test.YtepaanpdjadakaaBuild
/-! More on literals: inside a region that draws its order. -/
namespace Go.Proofs.Ytepaanpdjadakaa
open Go Go.RowKit

section
variable {P : Program} {w w' : World} {o : Oper} {a : Act} {K : Act → World → Prop} {Q : Exit → Act → World → Prop}
theorem wp_buildSlice_row {t e : TypeId} {n : Nat} {ps : Array (Nat × Operand)} (ho : o.op = .buildSlice t n ps) (vs : List Value) {z : Value} {sz : Nat} (hn : n = vs.length)
    (hv : (ps.map fun (i, x) => (i, a.eval x)).toList = (vs.zipIdx 0).map fun p => (p.2, p.1))
    (ht : P.underlying t = some (.slice e)) (hi : (P.info? e).map (fun i => (i.zero, i.size)) = some (some z, sz)) (hvs : ∀ v ∈ vs, v.cells.size = sz) (hpos : 0 < n * sz) (hle : n * sz ≤ 1000)
    (h : K (a.put o.dst (.slice (some ⟨w.heap.size, 0, none⟩) n n)) (w.alloc (.cells (vs.flatMap fun v => v.cells.toList).toArray e))) : o.wp P a w K Q := by
  unfold Oper.wp execOp
  simp only [ho, Sem.run_bind, run_buildSlice_row hn hv ht hi hvs hpos hle, Result.andThen_ok, Sem.run_pure, Oper.upon]
  exact h
theorem wp_buildSlice_one {t e : TypeId} {x : Operand} (ho : o.op = .buildSlice t 1 #[(0, x)]) {v z : Value} {sz : Nat} (hv : a.eval x = v)
    (ht : P.underlying t = some (.slice e)) (hi : (P.info? e).map (fun i => (i.zero, i.size)) = some (some z, sz)) (hvs : v.cells.size = sz) (hpos : 0 < sz) (hle : sz ≤ 1000)
    (h : K (a.put o.dst (.slice (some ⟨w.heap.size, 0, none⟩) 1 1)) (w.alloc (.cells v.cells e))) : o.wp P a w K Q := by
  subst hvs
  unfold Oper.wp execOp
  simp only [ho, Sem.run_bind, List.map_toArray, List.map_cons, List.map_nil, hv, run_buildSlice_one ht hi hpos hle, Result.andThen_ok, Sem.run_pure, Oper.upon]
  exact h
theorem wp_build_run {t : TypeId} {parts : Array (Nat × Operand)} (ho : o.op = .build t parts) {vs : List (Nat × Value)} {cells : Array Value}
    (hv : (parts.map fun (i, x) => (i, a.eval x)).toList = vs) (hb : P.built t vs = some cells) (h : K (a.put o.dst (.agg cells)) w) : o.wp P a w K Q :=
  wp_build t parts ho (by rw [hv, hb]; rfl) (by rw [hv, hb]; exact h)
end
end Go.Proofs.Ytepaanpdjadakaa
