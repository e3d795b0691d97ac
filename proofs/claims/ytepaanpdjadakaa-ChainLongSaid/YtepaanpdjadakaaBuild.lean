import Derived.Test.YtepaanpdjadakaaElems
import Derived.Laws.Tables
/-! Literals of structs, and slices of one thing. -/
namespace Go.Proofs.Ytepaanpdjadakaa
open Go Go.RowKit

theorem flat_len {sz : Nat} : ∀ (vs : List Value), (∀ v ∈ vs, v.cells.size = sz) → (vs.flatMap fun v => v.cells.toList).length = vs.length * sz := by
  intro vs
  induction vs with
  | nil => intro _; simp
  | cons v vs ih =>
    intro h
    rw [List.flatMap_cons, List.length_append, ih (fun u hu => h u (by simp [hu])), List.length_cons, Nat.add_mul, Array.length_toList, h v (by simp)]
    omega
/-- A walk with arms of its own is stopped behind the last of them. -/
def Stop (p : Prop) : Prop := p
theorem stop_ {p : Prop} (h : Stop p) : p := h
theorem fold_splice : ∀ (vs : List Value) (k : Nat) (cells : Array Value) (off : Nat), off + k + vs.length ≤ cells.size →
    (vs.toArray.zipIdx k).foldl (fun cs (x : Value × Nat) => cs.setIfInBounds (off + x.2) x.1) cells = splice cells (off + k) vs := by
  intro vs
  induction vs with
  | nil =>
    intro k cells off h
    rw [← Array.foldl_toList, Array.toList_zipIdx]
    simp [splice]
  | cons v vs ih =>
    intro k cells off h
    rw [← Array.foldl_toList, Array.toList_zipIdx, List.zipIdx_cons, List.foldl_cons]
    have h2 := ih (k + 1) (cells.setIfInBounds (off + k) v) off (by simp at h ⊢; omega)
    rw [← Array.foldl_toList, Array.toList_zipIdx] at h2
    rw [h2]
    unfold splice
    congr 1
    simp only [Array.toList_setIfInBounds]
    simp only [List.length_cons] at h
    rw [show off + (k + 1) = off + k + 1 by omega]
    rw [List.take_set, List.take_add_one, List.set_append_right _ _ (by simp; omega)]
    simp only [List.length_take, Array.length_toList]
    rw [Nat.min_eq_left (by omega), Nat.sub_self, List.getElem?_eq_getElem (by simp; omega)]
    simp only [Option.toList_some, List.set_cons_zero, List.length_cons, List.append_assoc, List.singleton_append]
    rw [List.drop_set_of_lt (by omega)]
    rw [show off + k + 1 + vs.length = off + k + (vs.length + 1) by omega]
theorem fill_one {place : Nat → Option (Nat × Nat)} {i off : Nat} {v : Value} {cells : Array Value} {rest : List (Nat × Value)} (hp : place i = some (off, v.cells.size)) (hle : off + v.cells.size ≤ cells.size) :
    Instr.fill place cells ((i, v) :: rest) = Instr.fill place (splice cells off v.cells.toList) rest := by
  rw [Instr.fill, hp]
  simp only
  rw [if_neg (by simp; omega)]
  have := fold_splice v.cells.toList 0 cells off (by simpa using hle)
  simp only [Array.toArray_toList, Nat.add_zero] at this
  rw [← this]
theorem built_struct {P : Program} {t : TypeId} {fields : Array Field} {places : List (Nat × Nat)} {z : Value} {parts : List (Nat × Value)} (hu : P.underlying t = some (.struct fields)) (hz : (P.info? t).map (·.zero) = some (some z))
    (hp : fields.toList.mapM (fun f => (P.info? f.type).map fun i => (f.offset, i.size)) = some places) : P.built t parts = Instr.fill (places.toArray[·]?) z.cells parts := by
  obtain ⟨it, hit, hz'⟩ := Option.map_eq_some_iff.1 hz
  simp [Program.built, hit, hu, hz', hp]

section
variable {P : Program} {w w' : World}
theorem wpList_build_run {ops : Array Oper} {rest : List Oper} {o : Oper} {a : Act} {Q : Exit → Act → World → Prop} (hgd : o.guard = none) {t : TypeId} {parts : Array (Nat × Operand)} (ho : o.op = .build t parts) {vs : List (Nat × Value)} {cells : Array Value}
    (hv : (parts.map fun (i, x) => (i, a.eval x)).toList = vs) (hb : P.built t vs = some cells) (h : wpList P ops Q rest (a.put o.dst (.agg cells)) w) : wpList P ops Q (o :: rest) a w :=
  wpList_plain hgd fun _ hK => wp_build t parts ho (by rw [hv, hb]; rfl) (hK _ _ (by rw [hv, hb]; exact h))
theorem wpList_build2_run {ops : Array Oper} {rest : List Oper} {o : Oper} {a : Act} {Q : Exit → Act → World → Prop} (hgd : o.guard = none) {t : TypeId} {i j : Nat} {x y : Operand} (ho : o.op = .build t #[(i, x), (j, y)]) {u v : Value} {cells : Array Value}
    (hx : a.eval x = u) (hy : a.eval y = v) (hb : P.built t [(i, u), (j, v)] = some cells) (h : wpList P ops Q rest (a.put o.dst (.agg cells)) w) : wpList P ops Q (o :: rest) a w :=
  wpList_build_run hgd ho (vs := [(i, u), (j, v)]) (by simp [hx, hy]) hb h
theorem wpList_build5_run {ops : Array Oper} {rest : List Oper} {o : Oper} {a : Act} {Q : Exit → Act → World → Prop} (hgd : o.guard = none) {t : TypeId} {i1 i2 i3 i4 i5 : Nat} {x1 x2 x3 x4 x5 : Operand} (ho : o.op = .build t #[(i1, x1), (i2, x2), (i3, x3), (i4, x4), (i5, x5)]) {v1 v2 v3 v4 v5 : Value} {cells : Array Value}
    (h1 : a.eval x1 = v1) (h2 : a.eval x2 = v2) (h3 : a.eval x3 = v3) (h4 : a.eval x4 = v4) (h5 : a.eval x5 = v5) (hb : P.built t [(i1, v1), (i2, v2), (i3, v3), (i4, v4), (i5, v5)] = some cells) (h : wpList P ops Q rest (a.put o.dst (.agg cells)) w) : wpList P ops Q (o :: rest) a w :=
  wpList_build_run hgd ho (vs := [(i1, v1), (i2, v2), (i3, v3), (i4, v4), (i5, v5)]) (by simp [h1, h2, h3, h4, h5]) hb h
theorem fill_row {sz : Nat} : ∀ (vs : List Value) (k : Nat) (cells : Array Value), (∀ v ∈ vs, v.cells.size = sz) → (k + vs.length) * sz ≤ cells.size →
    Instr.fill (fun i => some (i * sz, sz)) cells ((vs.zipIdx k).map fun p => (p.2, p.1)) = some (splice cells (k * sz) (vs.flatMap fun v => v.cells.toList)) := by
  intro vs
  induction vs with
  | nil => intro k cells _ _; simp [Instr.fill, splice]
  | cons v vs ih =>
    intro k cells hv hle
    have hv0 := hv v (by simp)
    have e1 : (k + (vs.length + 1)) * sz = k * sz + (vs.length * sz + sz) := by rw [Nat.add_mul, Nat.add_mul]; omega
    simp only [List.length_cons] at hle
    rw [e1] at hle
    rw [List.zipIdx_cons, List.map_cons, fill_one (off := k * sz) (by simp [hv0]) (by rw [hv0]; omega)]
    have hfl : (vs.flatMap fun v => v.cells.toList).length = vs.length * sz := flat_len vs (fun u hu => hv u (by simp [hu]))
    rw [ih (k + 1) _ (fun u hu => hv u (by simp [hu])) (by
      have : (splice cells (k * sz) v.cells.toList).size = cells.size := by
        unfold splice; simp [hv0]; omega
      rw [this, Nat.add_mul, Nat.add_mul]; omega)]
    congr 1
    unfold splice
    simp only [List.flatMap_cons]
    congr 1
    have hvl : v.cells.toList.length = sz := by simpa using hv0
    have hk : (k + 1) * sz = k * sz + sz := by rw [Nat.add_mul]; omega
    rw [hk]
    have hcl : k * sz + sz ≤ cells.toList.length := by simpa using (by omega : k * sz + sz ≤ cells.size)
    rw [List.take_append_of_le_length (by simp [hvl]; omega)]
    rw [List.take_of_length_le (by simp [hvl]; omega)]
    rw [List.drop_append]
    have h9 : (List.take (k * sz) cells.toList ++ v.cells.toList).length = k * sz + sz := by simp [hv0]; simp at hcl; omega
    rw [h9, List.drop_of_length_le (by rw [h9]; omega)]
    simp only [List.nil_append, List.drop_drop, List.length_append, hvl, hfl, List.append_assoc]
    rw [show k * sz + sz + (k * sz + sz + vs.length * sz - (k * sz + sz)) = k * sz + (sz + vs.length * sz) by omega]
theorem reads_new {t : TypeId} {m c : Nat} {cs : List Value} : Reads (w.alloc (.cells cs.toArray t)) (.slice (some ⟨w.heap.size, 0, none⟩) m c) m cs :=
  .inr ⟨_, _, rfl, fun j u hu => by
    rw [Addr.add_lit]
    unfold World.cell?
    rw [heap_alloc_new]
    simpa using hu⟩
theorem cell_new {t : TypeId} {c : Array Value} {o : Nat} : (w.alloc (.cells c t)).cell? ⟨w.heap.size, o, none⟩ = c[o]? := by
  unfold World.cell?
  rw [heap_alloc_new]
  simp
/-- What a call made of its own, beside what there was. -/
theorem Sat.and {B : Nat} {w0 : World} {F A : HP} (h : Sat B w0 w F) (k : Sat w.heap.size w w' A) : Sat B w0 w' (A • F) := by
  have h' := h.below_ k.below
  obtain ⟨p, a, x⟩ := h.part
  obtain ⟨q, c, y⟩ := k.part
  refine ⟨h'.below, h'.le, Part.join q p, fun b o hb => ?_, q, p, fun b => ?_, rfl, y, x⟩
  · unfold Part.join at hb
    cases hq : q b with
    | some o' =>
      rw [hq] at hb
      simp only [Option.some.injEq] at hb
      subst hb
      exact ⟨Nat.le_trans h.le (c b _ hq).1, (c b _ hq).2⟩
    | none =>
      rw [hq] at hb
      have h1 := a b o hb
      exact ⟨h1.1, (k.below.block b (Array.getElem?_eq_some_iff.1 h1.2).1).trans h1.2⟩
  · cases hq : q b with
    | none => exact .inl rfl
    | some o' =>
      right
      cases hp : p b with
      | none => rfl
      | some o =>
        have h1 := (Array.getElem?_eq_some_iff.1 (a b o hp).2).1
        have h2 := (c b o' hq).1
        omega
theorem run_buildSlice_one {t e : TypeId} {v z : Value} (ht : P.underlying t = some (.slice e)) (hi : (P.info? e).map (fun i => (i.zero, i.size)) = some (some z, v.cells.size)) (hpos : 0 < v.cells.size) (hle : v.cells.size ≤ 1000) :
    (Instr.buildSlice t 1 #[(0, v)]).run P w = .ok (.slice (some ⟨w.heap.size, 0, none⟩) 1 1) (w.alloc (.cells v.cells e)) := by
  obtain ⟨it, hit, hz'⟩ := Option.map_eq_some_iff.1 hi
  simp only [Prod.mk.injEq] at hz'
  obtain ⟨h1, h2⟩ := hz'
  have hf : Instr.fill (fun i => some (i * v.cells.size, v.cells.size)) (Array.map (fun x => z.cells[x % z.cells.size]!) (Array.range v.cells.size)) [(0, v)] = some v.cells := by
    rw [fill_one (off := 0) (by simp) (by simp)]
    rw [splice_all (by simp)]
    simp [Instr.fill]
  unfold Instr.buildSlice
  simp only [Sem.run_bind, run_underlying ht, Result.andThen_ok, sizeOf, typeInfo, run_program, hit, Sem.run_pure, h2, Nat.one_mul]
  rw [if_neg (by omega), if_neg (by omega)]
  simp only [zeroValue, typeInfo, Sem.run_bind, run_program, hit, Sem.run_pure, Result.andThen_ok, h1, hf]
  simp [newRow, newObj, Sem.run]
theorem run_buildSlice_row {t e : TypeId} {vs : List Value} {z : Value} {sz : Nat} {parts : Array (Nat × Value)} {n : Nat} (hn : n = vs.length) (hp : parts.toList = (vs.zipIdx 0).map fun p => (p.2, p.1)) (ht : P.underlying t = some (.slice e)) (hi : (P.info? e).map (fun i => (i.zero, i.size)) = some (some z, sz))
    (hv : ∀ v ∈ vs, v.cells.size = sz) (hpos : 0 < n * sz) (hle : n * sz ≤ 1000) :
    (Instr.buildSlice t n parts).run P w = .ok (.slice (some ⟨w.heap.size, 0, none⟩) n n) (w.alloc (.cells (vs.flatMap fun v => v.cells.toList).toArray e)) := by
  subst hn
  obtain ⟨it, hit, hz'⟩ := Option.map_eq_some_iff.1 hi
  simp only [Prod.mk.injEq] at hz'
  obtain ⟨h1, h2⟩ := hz'
  have hf := fill_row vs 0 (Array.map (fun x => z.cells[x % z.cells.size]!) (Array.range (vs.length * sz))) hv (by simp)
  rw [Nat.zero_mul, splice_all (by rw [flat_len vs hv]; simp)] at hf
  unfold Instr.buildSlice
  simp only [Sem.run_bind, run_underlying ht, Result.andThen_ok, sizeOf, typeInfo, run_program, hit, Sem.run_pure, h2]
  rw [if_neg (by omega), if_neg (by omega)]
  simp only [zeroValue, typeInfo, Sem.run_bind, run_program, hit, Sem.run_pure, Result.andThen_ok, h1, hp, hf]
  simp [newRow, newObj, Sem.run]
theorem wpList_buildSlice_row {ops : Array Oper} {rest : List Oper} {o : Oper} {a : Act} {Q : Exit → Act → World → Prop} (hgd : o.guard = none) {t e : TypeId} {n : Nat} {ps : Array (Nat × Operand)} (ho : o.op = .buildSlice t n ps) (vs : List Value) {z : Value} {sz : Nat} (hn : n = vs.length)
    (hv : (ps.map fun (i, x) => (i, a.eval x)).toList = (vs.zipIdx 0).map fun p => (p.2, p.1))
    (ht : P.underlying t = some (.slice e)) (hi : (P.info? e).map (fun i => (i.zero, i.size)) = some (some z, sz)) (hvs : ∀ v ∈ vs, v.cells.size = sz) (hpos : 0 < n * sz) (hle : n * sz ≤ 1000)
    (h : wpList P ops Q rest (a.put o.dst (.slice (some ⟨w.heap.size, 0, none⟩) n n)) (w.alloc (.cells (vs.flatMap fun v => v.cells.toList).toArray e))) : wpList P ops Q (o :: rest) a w := by
  refine wpList_plain hgd fun K hK => ?_
  unfold Oper.wp execOp
  simp only [ho, Sem.run_bind, run_buildSlice_row hn hv ht hi hvs hpos hle, Result.andThen_ok, Sem.run_pure, Oper.upon]
  exact hK _ _ h
theorem wpList_buildSlice_one {ops : Array Oper} {rest : List Oper} {o : Oper} {a : Act} {Q : Exit → Act → World → Prop} (hgd : o.guard = none) {t e : TypeId} {x : Operand} (ho : o.op = .buildSlice t 1 #[(0, x)]) {v z : Value} {sz : Nat} (hv : a.eval x = v)
    (ht : P.underlying t = some (.slice e)) (hi : (P.info? e).map (fun i => (i.zero, i.size)) = some (some z, sz)) (hvs : v.cells.size = sz) (hpos : 0 < sz) (hle : sz ≤ 1000)
    (h : wpList P ops Q rest (a.put o.dst (.slice (some ⟨w.heap.size, 0, none⟩) 1 1)) (w.alloc (.cells v.cells e))) : wpList P ops Q (o :: rest) a w := by
  subst hvs
  refine wpList_plain hgd fun K hK => ?_
  unfold Oper.wp execOp
  simp only [ho, Sem.run_bind, List.map_toArray, List.map_cons, List.map_nil, hv, run_buildSlice_one ht hi hpos hle, Result.andThen_ok, Sem.run_pure, Oper.upon]
  exact hK _ _ h
variable {K : Act → World → Prop} {C : World → Prop} {a : Act} {i : Nat} {rest : List (Nat × How)} {o : Oper} {l : List Oper}
theorem ord_skip' {k : How} (hi : l[i]? = some o) (hw : Region.wanted o (yielded l.toArray a.tmps) = false)
    (h : ∀ K' : Act → Prop, (∀ a, wpOrd P l.toArray K C rest a w → K' a) → K' (a.put o.dst undef)) : wpOrd P l.toArray K C ((i, k) :: rest) a w :=
  ord_skip hi hw (h _ fun _ h => h)
theorem ord_run {v : Value} (hi : l[i]? = some o) (hw : Region.wanted o (yielded l.toArray a.tmps) = true) (hr : ∀ w', (execOp a.eval o).run P w' = .ok (.value v) w')
    (h : ∀ K' : Act → Prop, (∀ a, wpOrd P l.toArray K C rest a w → K' a) → K' (a.put o.dst v)) : wpOrd P l.toArray K C ((i, .pure) :: rest) a w := by
  have hi' : l.toArray[i]? = some o := by simpa using hi
  simp only [wpOrd, hi', hw, if_true]
  exact ⟨v, hr, h _ fun _ h => h⟩
end
end Go.Proofs.Ytepaanpdjadakaa
