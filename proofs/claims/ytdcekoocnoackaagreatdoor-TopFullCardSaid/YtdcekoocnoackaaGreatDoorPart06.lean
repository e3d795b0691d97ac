import Derived.Test.YtdcekoocnoackaaGreatDoorPart04
import Derived.Test.YtdcekoocnoackaaGreatDoorPart05
import Derived.Laws.ResultCell
import Derived.Laws.Tables

/-! Slices of things of several cells. -/
namespace Go.Proofs.YtdcekoocnoackaaGreatDoor
open Go Go.RowKit

theorem flat_length {α : Type} {enc : α → List Value} {sz : Nat} (hsz : ∀ x, (enc x).length = sz) (l : List α) : (l.flatMap enc).length = l.length * sz := by
  induction l with
  | nil => simp
  | cons x l ih => rw [List.flatMap_cons, List.length_append, ih, hsz, List.length_cons, Nat.add_mul]; omega
theorem flat_get {α : Type} {enc : α → List Value} {sz : Nat} (hsz : ∀ x, (enc x).length = sz) : ∀ (l : List α) (i j : Nat) (x : α), l[i]? = some x → j < sz → (l.flatMap enc)[i * sz + j]? = (enc x)[j]? := by
  intro l
  induction l with
  | nil => intro i j x h; simp at h
  | cons y l ih =>
    intro i j x h hj
    rw [List.flatMap_cons]
    cases i with
    | zero =>
      simp only [List.getElem?_cons_zero, Option.some.injEq] at h
      subst h
      rw [Nat.zero_mul, Nat.zero_add, List.getElem?_append_left (by rw [hsz]; exact hj)]
    | succ i =>
      rw [List.getElem?_append_right (by rw [hsz, Nat.succ_mul]; omega), hsz]
      rw [show (i + 1) * sz + j - sz = i * sz + j by rw [Nat.succ_mul]; omega]
      exact ih i j x (by simpa using h) hj
theorem add_add' (a : Addr) (i j : Nat) : (a.add i).add j = a.add (i + j) := by
  unfold Addr.add
  by_cases h1 : i = 0 <;> by_cases h2 : j = 0 <;> simp [h1, h2, Nat.add_assoc]
section
variable {B : Nat} {w0 w w' : World} {F : HP} {P : Program}
/-- An element of a slice that is read. -/
theorem Reads.elem {α : Type} {enc : α → List Value} {sz : Nat} (hsz : ∀ x, (enc x).length = sz) {v : Value} {l : List α} (h : Reads w v l.length (l.flatMap enc)) {i : Nat} {x : α} (hi : l[i]? = some x) :
    ∃ a c, v = .slice (some a) l.length c ∧ ∀ j u, (enc x)[j]? = some u → w.cell? (a.add (i * sz + j)) = some u := by
  have hlt : i < l.length := (List.getElem?_eq_some_iff.1 hi).1
  rcases h with ⟨c, rfl, h0, _⟩ | ⟨a, c, rfl, h⟩
  · omega
  · refine ⟨a, c, rfl, fun j u hu => h _ _ ?_⟩
    have hj : j < sz := by have := (List.getElem?_eq_some_iff.1 hu).1; rwa [hsz] at this
    rw [flat_get hsz l i j x hi hj, hu]
theorem Reads.below {v : Value} {n : Nat} {cs : List Value} (h : Reads w v n cs) (hb : Below w.heap.size w w') : Reads w' v n cs := by
  rcases h with h | ⟨a, c, rfl, h⟩
  · exact .inl h
  · exact .inr ⟨a, c, rfl, fun j u hu => by
      have := h j u hu
      rw [hb.cell (World.block_lt_of_cell? _ _ this)]; exact this⟩
theorem Reads.len {v : Value} {n : Nat} {cs : List Value} (h : Reads w v n cs) : ∃ A c, v = .slice A n c := by
  rcases h with ⟨c, rfl, rfl, _⟩ | ⟨a, c, rfl, _⟩
  · exact ⟨_, _, rfl⟩
  · exact ⟨_, _, rfl⟩
/-- A struct or a row, at an address. -/
theorem run_loadAt_cells {p : Addr} {ty : TypeId} {cs : List Value} {d : TypeDesc} (hu : P.underlying ty = some d) (hd : d.isRow = true) (hi : (P.info? ty).map (·.size) = some cs.length)
    (hc : ∀ j u, cs[j]? = some u → w.cell? (p.add j) = some u) : (Instr.loadAt ty (.pointer (some p))).run P w = .ok (.agg cs.toArray) w := by
  have hl := run_loadCells_list (P := P) w p cs hc
  cases hq : P.info? ty with
  | none => simp [hq] at hi
  | some i =>
    have hs : i.size = cs.length := by simpa [hq] using hi
    have hagg : (isAgg ty).run P w = .ok true w := by
      rw [run_isAgg hu]
      cases d <;> simp_all [isRowD]
    simp only [Instr.loadAt, Instr.sureAddr, Sem.run_bind, Sem.run_pure, Result.andThen_ok]
    simp [loadVar, Sem.run_bind, hagg, sizeOf, typeInfo, hq, hs, hl]
/-- A variable that was just made takes a whole value. -/
theorem setRow_alloc (w : World) (z c : Array Value) (t : TypeId) : (w.alloc (.cells z t)).setRow w.heap.size c = w.alloc (.cells c t) := by
  unfold World.setRow World.alloc
  congr 1
  apply Array.ext
  · simp
  · intro i h1 h2
    simp only [Array.size_modify, Array.size_push] at h1
    rw [Array.getElem_modify]
    by_cases e : w.heap.size = i
    · subst e; simp
    · rw [if_neg e]
      simp [Array.getElem_push, show i < w.heap.size by omega]
theorem run_storeAt_new {ty t : TypeId} {z : Array Value} {v : Value} (hi : (P.info? ty).map (·.size) = some v.cells.size) (hz : z.size = v.cells.size) (h1 : ∀ u ∈ v.cells.toList, u.oneCell' = true) :
    (Instr.storeAt ty (.pointer (some ⟨w.heap.size, 0, none⟩)) v).run P (w.alloc (.cells z t)) = .ok () (w.alloc (.cells v.cells t)) := by
  rw [run_storeAt_row (heap_alloc_new w _) hi (by omega) h1, setRow_alloc]
  congr 3
  unfold splice
  simp only [List.take_zero, List.nil_append, Nat.zero_add]
  rw [List.drop_eq_nil_of_le (by simp; omega)]
  simp
theorem splice_all {cur : Array Value} {vs : List Value} (h : vs.length = cur.size) : splice cur 0 vs = vs.toArray := by
  unfold splice
  simp only [List.take_zero, List.nil_append, Nat.zero_add]
  rw [List.drop_eq_nil_of_le (by simp; omega)]
  simp
/-- What is handed back lies in a variable. -/
theorem run_loadVar_of {t : TypeId} {p : Addr} {v : Value} (h : (Instr.loadAt t (.pointer (some p))).run P w = .ok v w) : (loadVar t p).run P w = .ok v w := by
  simpa [Instr.loadAt, Instr.sureAddr, Sem.run_bind] using h
theorem ret_cell {fn : Func} {R : Ending → World → Prop} {a : Act} {p : Tmp} {ty : TypeId} {d : Addr} {v : Value} (h : fn.results = #[.cell p ty]) (hp : a.tmps.getD p undef = .pointer (some d))
    (hl : (Instr.loadAt ty (.pointer (some d))).run P w = .ok v w) (hd : a.defers = []) (hR : R (.returned v) w) : bodyPost P fn R .ret a w := by
  refine bodyPost_ret (v := v) ?_ hd hR
  have hp' : a.tmps[p]?.getD undef = .pointer (some d) := by simpa using hp
  simp [results, h, hp', asAddr, run_loadVar_of hl]
theorem ret_cell_tmp {fn : Func} {R : Ending → World → Prop} {a : Act} {p u : Tmp} {ty : TypeId} {d : Addr} {v x : Value} (h : fn.results = #[.cell p ty, .tmp u]) (hp : a.tmps.getD p undef = .pointer (some d)) (hu : a.tmps.getD u undef = x)
    (hl : (Instr.loadAt ty (.pointer (some d))).run P w = .ok v w) (hd : a.defers = []) (hR : R (.returned (.tuple #[v, x])) w) : bodyPost P fn R .ret a w := by
  refine bodyPost_ret (v := .tuple #[v, x]) ?_ hd hR
  rw [results_cell_tmp h, hp, hu]
  simp [asAddr, run_loadVar_of hl]
/-- '==', at the operation. -/
theorem wp_eql_run {o : Oper} {a : Act} {K : Act → World → Prop} {Q : Exit → Act → World → Prop} {t t' : TypeId} {x y : Operand} (ho : o.op = .binOp .eql t x y t') {xs ys : Array Value} {r : Bool} (hx : a.eval x = .agg xs) (hy : a.eval y = .agg ys)
    (hg : P.eqGuardType P.depth t = false) (hr : EqV P w 10000 t (.agg xs) (.agg ys) r) (h : K (a.put o.dst (.bool r)) w) : o.wp P a w K Q := by
  unfold Oper.wp execOp
  simp only [ho, hx, hy, Sem.run_bind, run_eqGuard_agg w _ _ _ _ _ _ hg, Result.andThen_ok, run_eql_struct]
  rw [show (Op.equalIn 10000 t (.agg xs) (.agg ys)).run P w = .ok r w from hr]
  simp only [Result.andThen_ok, Sem.run_pure, Oper.upon]
  exact h
variable {K : Act → World → Prop} {C : World → Prop} {a : Act} {i : Nat} {rest : List (Nat × How)} {o : Oper} {l : List Oper}
theorem ord_eql (hi : l[i]? = some o) (hw : Region.wanted o (yielded l.toArray a.tmps) = true) {t t' : TypeId} {x y : Operand} (ho : o.op = .binOp .eql t x y t') {xs ys : Array Value} {r : Bool} (hx : a.eval x = .agg xs) (hy : a.eval y = .agg ys)
    (hg : P.eqGuardType P.depth t = false) (hr : ∀ w', EqV P w' 10000 t (.agg xs) (.agg ys) r) (h : ∀ K' : Act → Prop, (∀ a, wpOrd P l.toArray K C rest a w → K' a) → K' (a.put o.dst (.bool r))) : wpOrd P l.toArray K C ((i, .pure) :: rest) a w := by
  have hi' : l.toArray[i]? = some o := by simpa using hi
  simp only [wpOrd, hi', hw, if_true]
  refine ⟨.bool r, fun w' => ?_, h _ fun _ h => h⟩
  unfold execOp
  simp only [ho, hx, hy, Sem.run_bind, run_eqGuard_agg w' _ _ _ _ _ _ hg, Result.andThen_ok, run_eql_struct]
  rw [show (Op.equalIn 10000 t (.agg xs) (.agg ys)).run P w' = .ok r w' from hr w']
  simp only [Result.andThen_ok, Sem.run_pure]
end
end Go.Proofs.YtdcekoocnoackaaGreatDoor

/-! Literals of structs, and slices of one thing. -/
namespace Go.Proofs.YtdcekoocnoackaaGreatDoor
open Go Go.RowKit

theorem flat_len {sz : Nat} : ∀ (vs : List Value), (∀ v ∈ vs, v.cells.size = sz) → (vs.flatMap fun v => v.cells.toList).length = vs.length * sz := by
  intro vs
  induction vs with
  | nil => intro _; simp
  | cons v vs ih =>
    intro h
    rw [List.flatMap_cons, List.length_append, ih (fun u hu => h u (by simp [hu])), List.length_cons, Nat.add_mul, Array.length_toList, h v (by simp)]
    omega
/-- A walk with arms of its own is stopped behind the last of them. -/
def Stop (p : Prop) : Prop := p
theorem stop_ {p : Prop} (h : Stop p) : p := h
theorem fold_splice : ∀ (vs : List Value) (k : Nat) (cells : Array Value) (off : Nat), off + k + vs.length ≤ cells.size →
    (vs.toArray.zipIdx k).foldl (fun cs (x : Value × Nat) => cs.setIfInBounds (off + x.2) x.1) cells = splice cells (off + k) vs := by
  intro vs
  induction vs with
  | nil =>
    intro k cells off h
    rw [← Array.foldl_toList, Array.toList_zipIdx]
    simp [splice]
  | cons v vs ih =>
    intro k cells off h
    rw [← Array.foldl_toList, Array.toList_zipIdx, List.zipIdx_cons, List.foldl_cons]
    have h2 := ih (k + 1) (cells.setIfInBounds (off + k) v) off (by simp at h ⊢; omega)
    rw [← Array.foldl_toList, Array.toList_zipIdx] at h2
    rw [h2]
    unfold splice
    congr 1
    simp only [Array.toList_setIfInBounds]
    simp only [List.length_cons] at h
    rw [show off + (k + 1) = off + k + 1 by omega]
    rw [List.take_set, List.take_add_one, List.set_append_right _ _ (by simp; omega)]
    simp only [List.length_take, Array.length_toList]
    rw [Nat.min_eq_left (by omega), Nat.sub_self, List.getElem?_eq_getElem (by simp; omega)]
    simp only [Option.toList_some, List.set_cons_zero, List.length_cons, List.append_assoc, List.singleton_append]
    rw [List.drop_set_of_lt (by omega)]
    rw [show off + k + 1 + vs.length = off + k + (vs.length + 1) by omega]
theorem fill_one {place : Nat → Option (Nat × Nat)} {i off : Nat} {v : Value} {cells : Array Value} {rest : List (Nat × Value)} (hp : place i = some (off, v.cells.size)) (hle : off + v.cells.size ≤ cells.size) :
    Instr.fill place cells ((i, v) :: rest) = Instr.fill place (splice cells off v.cells.toList) rest := by
  rw [Instr.fill, hp]
  simp only
  rw [if_neg (by simp; omega)]
  have := fold_splice v.cells.toList 0 cells off (by simpa using hle)
  simp only [Array.toArray_toList, Nat.add_zero] at this
  rw [← this]
theorem built_struct {P : Program} {t : TypeId} {fields : Array Field} {places : List (Nat × Nat)} {z : Value} {parts : List (Nat × Value)} (hu : P.underlying t = some (.struct fields)) (hz : (P.info? t).map (·.zero) = some (some z))
    (hp : fields.toList.mapM (fun f => (P.info? f.type).map fun i => (f.offset, i.size)) = some places) : P.built t parts = Instr.fill (places.toArray[·]?) z.cells parts := by
  obtain ⟨it, hit, hz'⟩ := Option.map_eq_some_iff.1 hz
  simp [Program.built, hit, hu, hz', hp]

section
variable {P : Program} {w w' : World}
theorem fill_row {sz : Nat} : ∀ (vs : List Value) (k : Nat) (cells : Array Value), (∀ v ∈ vs, v.cells.size = sz) → (k + vs.length) * sz ≤ cells.size →
    Instr.fill (fun i => some (i * sz, sz)) cells ((vs.zipIdx k).map fun p => (p.2, p.1)) = some (splice cells (k * sz) (vs.flatMap fun v => v.cells.toList)) := by
  intro vs
  induction vs with
  | nil => intro k cells _ _; simp [Instr.fill, splice]
  | cons v vs ih =>
    intro k cells hv hle
    have hv0 := hv v (by simp)
    have e1 : (k + (vs.length + 1)) * sz = k * sz + (vs.length * sz + sz) := by rw [Nat.add_mul, Nat.add_mul]; omega
    simp only [List.length_cons] at hle
    rw [e1] at hle
    rw [List.zipIdx_cons, List.map_cons, fill_one (off := k * sz) (by simp [hv0]) (by rw [hv0]; omega)]
    have hfl : (vs.flatMap fun v => v.cells.toList).length = vs.length * sz := flat_len vs (fun u hu => hv u (by simp [hu]))
    rw [ih (k + 1) _ (fun u hu => hv u (by simp [hu])) (by
      have : (splice cells (k * sz) v.cells.toList).size = cells.size := by
        unfold splice; simp [hv0]; omega
      rw [this, Nat.add_mul, Nat.add_mul]; omega)]
    congr 1
    unfold splice
    simp only [List.flatMap_cons]
    congr 1
    have hvl : v.cells.toList.length = sz := by simpa using hv0
    have hk : (k + 1) * sz = k * sz + sz := by rw [Nat.add_mul]; omega
    rw [hk]
    have hcl : k * sz + sz ≤ cells.toList.length := by simpa using (by omega : k * sz + sz ≤ cells.size)
    rw [List.take_append_of_le_length (by simp [hvl]; omega)]
    rw [List.take_of_length_le (by simp [hvl]; omega)]
    rw [List.drop_append]
    have h9 : (List.take (k * sz) cells.toList ++ v.cells.toList).length = k * sz + sz := by simp [hv0]; simp at hcl; omega
    rw [h9, List.drop_of_length_le (by rw [h9]; omega)]
    simp only [List.nil_append, List.drop_drop, List.length_append, hvl, hfl, List.append_assoc]
    rw [show k * sz + sz + (k * sz + sz + vs.length * sz - (k * sz + sz)) = k * sz + (sz + vs.length * sz) by omega]
theorem reads_new {t : TypeId} {m c : Nat} {cs : List Value} : Reads (w.alloc (.cells cs.toArray t)) (.slice (some ⟨w.heap.size, 0, none⟩) m c) m cs :=
  .inr ⟨_, _, rfl, fun j u hu => by
    rw [Addr.add_lit]
    unfold World.cell?
    rw [heap_alloc_new]
    simpa using hu⟩
/-- What a call made of its own, beside what there was. -/
theorem Sat.and {B : Nat} {w0 : World} {F A : HP} (h : Sat B w0 w F) (k : Sat w.heap.size w w' A) : Sat B w0 w' (A • F) := by
  have h' := h.below_ k.below
  obtain ⟨p, a, x⟩ := h.part
  obtain ⟨q, c, y⟩ := k.part
  refine ⟨h'.below, h'.le, Part.join q p, fun b o hb => ?_, q, p, fun b => ?_, rfl, y, x⟩
  · unfold Part.join at hb
    cases hq : q b with
    | some o' =>
      rw [hq] at hb
      simp only [Option.some.injEq] at hb
      subst hb
      exact ⟨Nat.le_trans h.le (c b _ hq).1, (c b _ hq).2⟩
    | none =>
      rw [hq] at hb
      have h1 := a b o hb
      exact ⟨h1.1, (k.below.block b (Array.getElem?_eq_some_iff.1 h1.2).1).trans h1.2⟩
  · cases hq : q b with
    | none => exact .inl rfl
    | some o' =>
      right
      cases hp : p b with
      | none => rfl
      | some o =>
        have h1 := (Array.getElem?_eq_some_iff.1 (a b o hp).2).1
        have h2 := (c b o' hq).1
        omega
theorem run_buildSlice_one {t e : TypeId} {v z : Value} (ht : P.underlying t = some (.slice e)) (hi : (P.info? e).map (fun i => (i.zero, i.size)) = some (some z, v.cells.size)) (hpos : 0 < v.cells.size) (hle : v.cells.size ≤ 1000) :
    (Instr.buildSlice t 1 #[(0, v)]).run P w = .ok (.slice (some ⟨w.heap.size, 0, none⟩) 1 1) (w.alloc (.cells v.cells e)) := by
  obtain ⟨it, hit, hz'⟩ := Option.map_eq_some_iff.1 hi
  simp only [Prod.mk.injEq] at hz'
  obtain ⟨h1, h2⟩ := hz'
  have hf : Instr.fill (fun i => some (i * v.cells.size, v.cells.size)) (Array.map (fun x => z.cells[x % z.cells.size]!) (Array.range v.cells.size)) [(0, v)] = some v.cells := by
    rw [fill_one (off := 0) (by simp) (by simp)]
    rw [splice_all (by simp)]
    simp [Instr.fill]
  unfold Instr.buildSlice
  simp only [Sem.run_bind, run_underlying ht, Result.andThen_ok, sizeOf, typeInfo, run_program, hit, Sem.run_pure, h2, Nat.one_mul]
  rw [if_neg (by omega), if_neg (by omega)]
  simp only [zeroValue, typeInfo, Sem.run_bind, run_program, hit, Sem.run_pure, Result.andThen_ok, h1, hf]
  simp [newRow, newObj, Sem.run]
theorem run_buildSlice_row {t e : TypeId} {vs : List Value} {z : Value} {sz : Nat} {parts : Array (Nat × Value)} {n : Nat} (hn : n = vs.length) (hp : parts.toList = (vs.zipIdx 0).map fun p => (p.2, p.1)) (ht : P.underlying t = some (.slice e)) (hi : (P.info? e).map (fun i => (i.zero, i.size)) = some (some z, sz))
    (hv : ∀ v ∈ vs, v.cells.size = sz) (hpos : 0 < n * sz) (hle : n * sz ≤ 1000) :
    (Instr.buildSlice t n parts).run P w = .ok (.slice (some ⟨w.heap.size, 0, none⟩) n n) (w.alloc (.cells (vs.flatMap fun v => v.cells.toList).toArray e)) := by
  subst hn
  obtain ⟨it, hit, hz'⟩ := Option.map_eq_some_iff.1 hi
  simp only [Prod.mk.injEq] at hz'
  obtain ⟨h1, h2⟩ := hz'
  have hf := fill_row vs 0 (Array.map (fun x => z.cells[x % z.cells.size]!) (Array.range (vs.length * sz))) hv (by simp)
  rw [Nat.zero_mul, splice_all (by rw [flat_len vs hv]; simp)] at hf
  unfold Instr.buildSlice
  simp only [Sem.run_bind, run_underlying ht, Result.andThen_ok, sizeOf, typeInfo, run_program, hit, Sem.run_pure, h2]
  rw [if_neg (by omega), if_neg (by omega)]
  simp only [zeroValue, typeInfo, Sem.run_bind, run_program, hit, Sem.run_pure, Result.andThen_ok, h1, hp, hf]
  simp [newRow, newObj, Sem.run]
theorem wpList_buildSlice_one {ops : Array Oper} {rest : List Oper} {o : Oper} {a : Act} {Q : Exit → Act → World → Prop} (hgd : o.guard = none) {t e : TypeId} {x : Operand} (ho : o.op = .buildSlice t 1 #[(0, x)]) {v z : Value} {sz : Nat} (hv : a.eval x = v)
    (ht : P.underlying t = some (.slice e)) (hi : (P.info? e).map (fun i => (i.zero, i.size)) = some (some z, sz)) (hvs : v.cells.size = sz) (hpos : 0 < sz) (hle : sz ≤ 1000)
    (h : wpList P ops Q rest (a.put o.dst (.slice (some ⟨w.heap.size, 0, none⟩) 1 1)) (w.alloc (.cells v.cells e))) : wpList P ops Q (o :: rest) a w := by
  subst hvs
  refine wpList_plain hgd fun K hK => ?_
  unfold Oper.wp execOp
  simp only [ho, Sem.run_bind, List.map_toArray, List.map_cons, List.map_nil, hv, run_buildSlice_one ht hi hpos hle, Result.andThen_ok, Sem.run_pure, Oper.upon]
  exact hK _ _ h
variable {K : Act → World → Prop} {C : World → Prop} {a : Act} {i : Nat} {rest : List (Nat × How)} {o : Oper} {l : List Oper}
theorem ord_skip' {k : How} (hi : l[i]? = some o) (hw : Region.wanted o (yielded l.toArray a.tmps) = false)
    (h : ∀ K' : Act → Prop, (∀ a, wpOrd P l.toArray K C rest a w → K' a) → K' (a.put o.dst undef)) : wpOrd P l.toArray K C ((i, k) :: rest) a w :=
  ord_skip hi hw (h _ fun _ h => h)
theorem ord_run {v : Value} (hi : l[i]? = some o) (hw : Region.wanted o (yielded l.toArray a.tmps) = true) (hr : ∀ w', (execOp a.eval o).run P w' = .ok (.value v) w')
    (h : ∀ K' : Act → Prop, (∀ a, wpOrd P l.toArray K C rest a w → K' a) → K' (a.put o.dst v)) : wpOrd P l.toArray K C ((i, .pure) :: rest) a w := by
  have hi' : l.toArray[i]? = some o := by simpa using hi
  simp only [wpOrd, hi', hw, if_true]
  exact ⟨v, hr, h _ fun _ h => h⟩
end
end Go.Proofs.YtdcekoocnoackaaGreatDoor

/-! More on literals: inside a region that draws its order. -/
namespace Go.Proofs.YtdcekoocnoackaaGreatDoor
open Go Go.RowKit

section
variable {P : Program} {w w' : World} {o : Oper} {a : Act} {K : Act → World → Prop} {Q : Exit → Act → World → Prop}
theorem wp_buildSlice_row {t e : TypeId} {n : Nat} {ps : Array (Nat × Operand)} (ho : o.op = .buildSlice t n ps) (vs : List Value) {z : Value} {sz : Nat} (hn : n = vs.length)
    (hv : (ps.map fun (i, x) => (i, a.eval x)).toList = (vs.zipIdx 0).map fun p => (p.2, p.1))
    (ht : P.underlying t = some (.slice e)) (hi : (P.info? e).map (fun i => (i.zero, i.size)) = some (some z, sz)) (hvs : ∀ v ∈ vs, v.cells.size = sz) (hpos : 0 < n * sz) (hle : n * sz ≤ 1000)
    (h : K (a.put o.dst (.slice (some ⟨w.heap.size, 0, none⟩) n n)) (w.alloc (.cells (vs.flatMap fun v => v.cells.toList).toArray e))) : o.wp P a w K Q := by
  unfold Oper.wp execOp
  simp only [ho, Sem.run_bind, run_buildSlice_row hn hv ht hi hvs hpos hle, Result.andThen_ok, Sem.run_pure, Oper.upon]
  exact h
theorem wp_buildSlice_one {t e : TypeId} {x : Operand} (ho : o.op = .buildSlice t 1 #[(0, x)]) {v z : Value} {sz : Nat} (hv : a.eval x = v)
    (ht : P.underlying t = some (.slice e)) (hi : (P.info? e).map (fun i => (i.zero, i.size)) = some (some z, sz)) (hvs : v.cells.size = sz) (hpos : 0 < sz) (hle : sz ≤ 1000)
    (h : K (a.put o.dst (.slice (some ⟨w.heap.size, 0, none⟩) 1 1)) (w.alloc (.cells v.cells e))) : o.wp P a w K Q := by
  subst hvs
  unfold Oper.wp execOp
  simp only [ho, Sem.run_bind, List.map_toArray, List.map_cons, List.map_nil, hv, run_buildSlice_one ht hi hpos hle, Result.andThen_ok, Sem.run_pure, Oper.upon]
  exact h
theorem wp_build_run {t : TypeId} {parts : Array (Nat × Operand)} (ho : o.op = .build t parts) {vs : List (Nat × Value)} {cells : Array Value}
    (hv : (parts.map fun (i, x) => (i, a.eval x)).toList = vs) (hb : P.built t vs = some cells) (h : K (a.put o.dst (.agg cells)) w) : o.wp P a w K Q :=
  wp_build t parts ho (by rw [hv, hb]; rfl) (by rw [hv, hb]; exact h)
end
end Go.Proofs.YtdcekoocnoackaaGreatDoor
