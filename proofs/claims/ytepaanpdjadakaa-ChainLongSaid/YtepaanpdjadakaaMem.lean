import Derived.Test.YtepaanpdjadakaaArr
import Derived.Test.YtepaanpdjadakaaOrd
import Derived.Deep.MidRow
namespace Go.Proofs.Ytepaanpdjadakaa
open Go Go.RowKit

/-- Some cells in the midst of others. -/
def splice (cur : Array Value) (o : Nat) (vs : List Value) : Array Value := (cur.toList.take o ++ vs ++ cur.toList.drop (o + vs.length)).toArray
theorem splice_size {cur : Array Value} {o : Nat} {vs : List Value} (h : o + vs.length ≤ cur.size) : (splice cur o vs).size = cur.size := by
  simp only [splice, List.size_toArray, List.length_append, List.length_take, List.length_drop, Array.length_toList]; omega
theorem splice_get {cur : Array Value} {o : Nat} {vs : List Value} (h : o + vs.length ≤ cur.size) (i : Nat) :
    (splice cur o vs)[i]? = if i < o then cur[i]? else if i < o + vs.length then vs[i - o]? else cur[i]? := by
  simp only [splice, List.getElem?_toArray]
  split
  · rename_i h1
    rw [List.append_assoc, List.getElem?_append_left (by rw [List.length_take, Array.length_toList]; omega), List.getElem?_take, if_pos h1]; simp
  · split
    · rename_i h1 h2
      rw [List.append_assoc, List.getElem?_append_right (by rw [List.length_take, Array.length_toList]; omega), List.getElem?_append_left (by rw [List.length_take, Array.length_toList]; omega)]
      congr 1
      rw [List.length_take, Array.length_toList]; omega
    · rename_i h1 h2
      have hl : (cur.toList.take o ++ vs).length = o + vs.length := by rw [List.length_append, List.length_take, Array.length_toList]; omega
      rw [List.getElem?_append_right (by omega), hl, List.getElem?_drop]
      rw [show o + vs.length + (i - (o + vs.length)) = i by omega]; simp
theorem splice_one {cur : Array Value} {o : Nat} {v : Value} (h : o < cur.size) : splice cur o [v] = cur.setIfInBounds o v := by
  apply Array.ext
  · rw [splice_size (by simp; omega)]; simp
  · intro i h1 h2
    have := splice_get (cur := cur) (o := o) (vs := [v]) (by simp; omega) i
    rw [Array.getElem?_eq_getElem h1] at this
    have h3 : (cur.setIfInBounds o v)[i]? = some ((cur.setIfInBounds o v)[i]) := Array.getElem?_eq_getElem h2
    have h4 : i < cur.size := by simpa using h2
    rw [Array.getElem?_setIfInBounds] at h3
    by_cases e : o = i
    · subst e
      simp at this h3
      rw [this]; simp
    · have : (splice cur o [v])[i] = cur[i] := by
        rw [← Option.some_inj, this]
        split
        · simp
        · rw [if_neg (by simp; omega)]; simp
      rw [this, Array.getElem_setIfInBounds_ne (by simpa using h2) e]

section
variable {B : Nat} {w0 w w' : World} {F : HP} {P : Program}
theorem grownBy_setRow (w : World) (g : Nat) (cs : Array Value) : w.grownBy (w.setRow g cs) (some g) :=
  ⟨rfl, rfl, rfl, by simp [World.setRow], fun k _ hk => setRow_other w g k _ (fun e => hk (by rw [e]))⟩
theorem Sat.setRow {g : Nat} {old cs : Array Value} {t : TypeId} {fr : Nat × Nat} (h : Sat B w0 w (blk g (.cells old t fr) • F)) : Sat B w0 (w.setRow g cs) (blk g (.cells cs t fr) • F) :=
  h.put (grownBy_setRow w g cs) (setRow_heap w g old cs t fr h.heap)

theorem run_storeAt_row {b o : Nat} {ty t : TypeId} {cur : Array Value} {v : Value} (hg : w.heap[b]? = some (.cells cur t (0, 0))) (hi : (P.info? ty).map (·.size) = some v.cells.size) (hl : o + v.cells.size ≤ cur.size) (h1 : ∀ u ∈ v.cells.toList, u.oneCell' = true) :
    (Instr.storeAt ty (.pointer (some ⟨b, o, none⟩)) v).run P w = .ok () (w.setRow b (splice cur o v.cells.toList)) := by
  have := run_storeCells_at (P := P) b o t v.cells.toList 0 cur w hg (by simpa using hl) h1
  simp only [Nat.add_zero] at this
  cases hq : P.info? ty with
  | none => simp [hq] at hi
  | some i =>
    have hs : v.cells.size = i.size := by simp [hq] at hi; omega
    simp only [Instr.storeAt, Instr.sureAddr, Sem.run_bind, Sem.run_pure, Result.andThen_ok]
    simp [storeVar, sizeOf, typeInfo, hq, hs, this, splice]
theorem run_loadAt_one {b o : Nat} {ty t : TypeId} {cur : Array Value} {fr : Nat × Nat} {v : Value} {d : TypeDesc} (hg : w.heap[b]? = some (.cells cur t fr)) (hu : P.underlying ty = some d) (hd : d.isRow = false) (hv : cur[o]? = some v) :
    (Instr.loadAt ty (.pointer (some ⟨b, o, none⟩))).run P w = .ok v w := by
  have hagg : (isAgg ty).run P w = .ok false w := by
    unfold isAgg
    rw [Sem.run_bind, run_underlying hu w]
    cases d <;> simp_all
  have hc : w.cell? ⟨b, o, none⟩ = some v := by simp [World.cell?, hg, hv]
  simp only [Instr.loadAt, Instr.sureAddr, Sem.run_bind, Sem.run_pure, Result.andThen_ok, loadVar, hagg]
  simp [load, Sem.run, hc]
theorem run_loadAt_row {b o : Nat} {ty t : TypeId} {cur : Array Value} {fr : Nat × Nat} {cs : List Value} {d : TypeDesc} (hg : w.heap[b]? = some (.cells cur t fr)) (hu : P.underlying ty = some d) (hd : d.isRow = true)
    (hi : (P.info? ty).map (·.size) = some cs.length) (hv : ∀ j u, cs[j]? = some u → cur[o + j]? = some u) :
    (Instr.loadAt ty (.pointer (some ⟨b, o, none⟩))).run P w = .ok (.agg cs.toArray) w :=
  run_loadAt_mid w b o ty cs d (fun j u hu => by simp [World.cell?, hg, hv j u hu]) hu hd hi

/-! The operations -/
theorem wp_load_run {o : Oper} {a : Act} {K : Act → World → Prop} {Q : Exit → Act → World → Prop} {t : TypeId} {x : Operand} (ho : o.op = .load t x) {p v : Value} (hx : a.eval x = p)
    (hr : (Instr.loadAt t p).run P w = .ok v w) (h : K (a.put o.dst v) w) : o.wp P a w K Q := by
  unfold Oper.wp execOp
  simp only [ho, hx, Sem.run_bind, hr, Result.andThen_ok, Sem.run_pure, Oper.upon]
  exact h
theorem wp_store_run {o : Oper} {a : Act} {K : Act → World → Prop} {Q : Exit → Act → World → Prop} {t : TypeId} {x y : Operand} (ho : o.op = .store t x y) {p v : Value} (hx : a.eval x = p) (hy : a.eval y = v)
    (hr : (Instr.storeAt t p v).run P w = .ok () w') (h : K (a.put o.dst undef) w') : o.wp P a w K Q := by
  unfold Oper.wp execOp
  simp only [ho, hx, hy, Sem.run_bind, hr, Result.andThen_ok, Sem.run_pure, Oper.upon]
  exact h
theorem wpList_load_run {ops : Array Oper} {rest : List Oper} {o : Oper} {a : Act} {Q : Exit → Act → World → Prop} (hgd : o.guard = none) {t : TypeId} {x : Operand} (ho : o.op = .load t x) {p v : Value} (hx : a.eval x = p)
    (hr : (Instr.loadAt t p).run P w = .ok v w) (h : wpList P ops Q rest (a.put o.dst v) w) : wpList P ops Q (o :: rest) a w :=
  wpList_plain hgd fun _ hK => wp_load_run ho hx hr (hK _ _ h)
theorem wpList_store_run {ops : Array Oper} {rest : List Oper} {o : Oper} {a : Act} {Q : Exit → Act → World → Prop} (hgd : o.guard = none) {t : TypeId} {x y : Operand} (ho : o.op = .store t x y) {p v : Value} (hx : a.eval x = p) (hy : a.eval y = v)
    (hr : (Instr.storeAt t p v).run P w = .ok () w') (h : wpList P ops Q rest (a.put o.dst undef) w') : wpList P ops Q (o :: rest) a w :=
  wpList_plain hgd fun _ hK => wp_store_run ho hx hy hr (hK _ _ h)

variable {K : Act → World → Prop} {C : World → Prop} {a : Act} {i : Nat} {rest : List (Nat × How)} {o : Oper} {l : List Oper}
theorem ord_load (hi : l[i]? = some o) (hw : Region.wanted o (yielded l.toArray a.tmps) = true) {t : TypeId} {x : Operand} (ho : o.op = .load t x) {p v : Value} (hx : a.eval x = p)
    (hr : ∀ w', C w' → (Instr.loadAt t p).run P w' = .ok v w') (h : ∀ K' : Act → Prop, (∀ a, wpOrd P l.toArray K C rest a w → K' a) → K' (a.put o.dst v)) : wpOrd P l.toArray K C ((i, .quiet) :: rest) a w := by
  have hi' : l.toArray[i]? = some o := by simpa using hi
  simp only [wpOrd, hi', hw, if_true]
  refine ⟨v, fun w' hC => ?_, h _ fun _ h => h⟩
  unfold execOp
  simp only [ho, hx, Sem.run_bind, hr w' hC, Result.andThen_ok, Sem.run_pure]
theorem ord_store (hi : l[i]? = some o) (hw : Region.wanted o (yielded l.toArray a.tmps) = true) {t : TypeId} {x y : Operand} (ho : o.op = .store t x y) (hd : o.dst = none) {p v : Value} (hx : a.eval x = p) (hy : a.eval y = v)
    (hr : (Instr.storeAt t p v).run P w = .ok () w') (C' : World → Prop) (hC : C' w') (h : wpOrd P l.toArray K C' rest a w') : wpOrd P l.toArray K C ((i, .seals) :: rest) a w :=
  ord_seals hi hw fun _ hK => wp_store_run ho hx hy hr (hK C' _ _ hC (by rw [hd]; exact h))
end
end Go.Proofs.Ytepaanpdjadakaa
