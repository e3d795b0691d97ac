import Derived.Test.YtdcekoocnoackaaGreatDoorPart02
import Derived.Test.YtdcekoocnoackaaGreatDoorPart03
import Derived.Deep.MidRow
import Derived.MapKept

namespace Go.Proofs.YtdcekoocnoackaaGreatDoor
open Go Go.RowKit

/-- Some cells in the midst of others. -/
def splice (cur : Array Value) (o : Nat) (vs : List Value) : Array Value := (cur.toList.take o ++ vs ++ cur.toList.drop (o + vs.length)).toArray
theorem splice_size {cur : Array Value} {o : Nat} {vs : List Value} (h : o + vs.length ≤ cur.size) : (splice cur o vs).size = cur.size := by
  simp only [splice, List.size_toArray, List.length_append, List.length_take, List.length_drop, Array.length_toList]; omega
theorem splice_get {cur : Array Value} {o : Nat} {vs : List Value} (h : o + vs.length ≤ cur.size) (i : Nat) :
    (splice cur o vs)[i]? = if i < o then cur[i]? else if i < o + vs.length then vs[i - o]? else cur[i]? := by
  simp only [splice, List.getElem?_toArray]
  split
  · rename_i h1
    rw [List.append_assoc, List.getElem?_append_left (by rw [List.length_take, Array.length_toList]; omega), List.getElem?_take, if_pos h1]; simp
  · split
    · rename_i h1 h2
      rw [List.append_assoc, List.getElem?_append_right (by rw [List.length_take, Array.length_toList]; omega), List.getElem?_append_left (by rw [List.length_take, Array.length_toList]; omega)]
      congr 1
      rw [List.length_take, Array.length_toList]; omega
    · rename_i h1 h2
      have hl : (cur.toList.take o ++ vs).length = o + vs.length := by rw [List.length_append, List.length_take, Array.length_toList]; omega
      rw [List.getElem?_append_right (by omega), hl, List.getElem?_drop]
      rw [show o + vs.length + (i - (o + vs.length)) = i by omega]; simp
theorem splice_one {cur : Array Value} {o : Nat} {v : Value} (h : o < cur.size) : splice cur o [v] = cur.setIfInBounds o v := by
  apply Array.ext
  · rw [splice_size (by simp; omega)]; simp
  · intro i h1 h2
    have := splice_get (cur := cur) (o := o) (vs := [v]) (by simp; omega) i
    rw [Array.getElem?_eq_getElem h1] at this
    have h3 : (cur.setIfInBounds o v)[i]? = some ((cur.setIfInBounds o v)[i]) := Array.getElem?_eq_getElem h2
    have h4 : i < cur.size := by simpa using h2
    rw [Array.getElem?_setIfInBounds] at h3
    by_cases e : o = i
    · subst e
      simp at this h3
      rw [this]; simp
    · have : (splice cur o [v])[i] = cur[i] := by
        rw [← Option.some_inj, this]
        split
        · simp
        · rw [if_neg (by simp; omega)]; simp
      rw [this, Array.getElem_setIfInBounds_ne (by simpa using h2) e]

section
variable {B : Nat} {w0 w w' : World} {F : HP} {P : Program}
theorem grownBy_setRow (w : World) (g : Nat) (cs : Array Value) : w.grownBy (w.setRow g cs) (some g) :=
  ⟨rfl, rfl, rfl, by simp [World.setRow], fun k _ hk => setRow_other w g k _ (fun e => hk (by rw [e]))⟩
theorem Sat.setRow {g : Nat} {old cs : Array Value} {t : TypeId} {fr : Nat × Nat} (h : Sat B w0 w (blk g (.cells old t fr) • F)) : Sat B w0 (w.setRow g cs) (blk g (.cells cs t fr) • F) :=
  h.put (grownBy_setRow w g cs) (setRow_heap w g old cs t fr h.heap)

theorem run_storeAt_row {b o : Nat} {ty t : TypeId} {cur : Array Value} {v : Value} (hg : w.heap[b]? = some (.cells cur t (0, 0))) (hi : (P.info? ty).map (·.size) = some v.cells.size) (hl : o + v.cells.size ≤ cur.size) (h1 : ∀ u ∈ v.cells.toList, u.oneCell' = true) :
    (Instr.storeAt ty (.pointer (some ⟨b, o, none⟩)) v).run P w = .ok () (w.setRow b (splice cur o v.cells.toList)) := by
  have := run_storeCells_at (P := P) b o t v.cells.toList 0 cur w hg (by simpa using hl) h1
  simp only [Nat.add_zero] at this
  cases hq : P.info? ty with
  | none => simp [hq] at hi
  | some i =>
    have hs : v.cells.size = i.size := by simp [hq] at hi; omega
    simp only [Instr.storeAt, Instr.sureAddr, Sem.run_bind, Sem.run_pure, Result.andThen_ok]
    simp [storeVar, sizeOf, typeInfo, hq, hs, this, splice]
theorem run_loadAt_one {b o : Nat} {ty t : TypeId} {cur : Array Value} {fr : Nat × Nat} {v : Value} {d : TypeDesc} (hg : w.heap[b]? = some (.cells cur t fr)) (hu : P.underlying ty = some d) (hd : d.isRow = false) (hv : cur[o]? = some v) :
    (Instr.loadAt ty (.pointer (some ⟨b, o, none⟩))).run P w = .ok v w := by
  have hagg : (isAgg ty).run P w = .ok false w := by
    unfold isAgg
    rw [Sem.run_bind, run_underlying hu w]
    cases d <;> simp_all
  have hc : w.cell? ⟨b, o, none⟩ = some v := by simp [World.cell?, hg, hv]
  simp only [Instr.loadAt, Instr.sureAddr, Sem.run_bind, Sem.run_pure, Result.andThen_ok, loadVar, hagg]
  simp [load, Sem.run, hc]
theorem run_loadAt_row {b o : Nat} {ty t : TypeId} {cur : Array Value} {fr : Nat × Nat} {cs : List Value} {d : TypeDesc} (hg : w.heap[b]? = some (.cells cur t fr)) (hu : P.underlying ty = some d) (hd : d.isRow = true)
    (hi : (P.info? ty).map (·.size) = some cs.length) (hv : ∀ j u, cs[j]? = some u → cur[o + j]? = some u) :
    (Instr.loadAt ty (.pointer (some ⟨b, o, none⟩))).run P w = .ok (.agg cs.toArray) w :=
  run_loadAt_mid w b o ty cs d (fun j u hu => by simp [World.cell?, hg, hv j u hu]) hu hd hi

/-! The operations -/
theorem wp_load_run {o : Oper} {a : Act} {K : Act → World → Prop} {Q : Exit → Act → World → Prop} {t : TypeId} {x : Operand} (ho : o.op = .load t x) {p v : Value} (hx : a.eval x = p)
    (hr : (Instr.loadAt t p).run P w = .ok v w) (h : K (a.put o.dst v) w) : o.wp P a w K Q := by
  unfold Oper.wp execOp
  simp only [ho, hx, Sem.run_bind, hr, Result.andThen_ok, Sem.run_pure, Oper.upon]
  exact h
theorem wp_store_run {o : Oper} {a : Act} {K : Act → World → Prop} {Q : Exit → Act → World → Prop} {t : TypeId} {x y : Operand} (ho : o.op = .store t x y) {p v : Value} (hx : a.eval x = p) (hy : a.eval y = v)
    (hr : (Instr.storeAt t p v).run P w = .ok () w') (h : K (a.put o.dst undef) w') : o.wp P a w K Q := by
  unfold Oper.wp execOp
  simp only [ho, hx, hy, Sem.run_bind, hr, Result.andThen_ok, Sem.run_pure, Oper.upon]
  exact h
theorem wpList_load_run {ops : Array Oper} {rest : List Oper} {o : Oper} {a : Act} {Q : Exit → Act → World → Prop} (hgd : o.guard = none) {t : TypeId} {x : Operand} (ho : o.op = .load t x) {p v : Value} (hx : a.eval x = p)
    (hr : (Instr.loadAt t p).run P w = .ok v w) (h : wpList P ops Q rest (a.put o.dst v) w) : wpList P ops Q (o :: rest) a w :=
  wpList_plain hgd fun _ hK => wp_load_run ho hx hr (hK _ _ h)
theorem wpList_store_run {ops : Array Oper} {rest : List Oper} {o : Oper} {a : Act} {Q : Exit → Act → World → Prop} (hgd : o.guard = none) {t : TypeId} {x y : Operand} (ho : o.op = .store t x y) {p v : Value} (hx : a.eval x = p) (hy : a.eval y = v)
    (hr : (Instr.storeAt t p v).run P w = .ok () w') (h : wpList P ops Q rest (a.put o.dst undef) w') : wpList P ops Q (o :: rest) a w :=
  wpList_plain hgd fun _ hK => wp_store_run ho hx hy hr (hK _ _ h)

variable {K : Act → World → Prop} {C : World → Prop} {a : Act} {i : Nat} {rest : List (Nat × How)} {o : Oper} {l : List Oper}
theorem ord_load (hi : l[i]? = some o) (hw : Region.wanted o (yielded l.toArray a.tmps) = true) {t : TypeId} {x : Operand} (ho : o.op = .load t x) {p v : Value} (hx : a.eval x = p)
    (hr : ∀ w', C w' → (Instr.loadAt t p).run P w' = .ok v w') (h : ∀ K' : Act → Prop, (∀ a, wpOrd P l.toArray K C rest a w → K' a) → K' (a.put o.dst v)) : wpOrd P l.toArray K C ((i, .quiet) :: rest) a w := by
  have hi' : l.toArray[i]? = some o := by simpa using hi
  simp only [wpOrd, hi', hw, if_true]
  refine ⟨v, fun w' hC => ?_, h _ fun _ h => h⟩
  unfold execOp
  simp only [ho, hx, Sem.run_bind, hr w' hC, Result.andThen_ok, Sem.run_pure]
theorem ord_store (hi : l[i]? = some o) (hw : Region.wanted o (yielded l.toArray a.tmps) = true) {t : TypeId} {x y : Operand} (ho : o.op = .store t x y) (hd : o.dst = none) {p v : Value} (hx : a.eval x = p) (hy : a.eval y = v)
    (hr : (Instr.storeAt t p v).run P w = .ok () w') (C' : World → Prop) (hC : C' w') (h : wpOrd P l.toArray K C' rest a w') : wpOrd P l.toArray K C ((i, .seals) :: rest) a w :=
  ord_seals hi hw fun _ hK => wp_store_run ho hx hy hr (hK C' _ _ hC (by rw [hd]; exact h))
end
end Go.Proofs.YtdcekoocnoackaaGreatDoor

/-! Maps from whole numbers to whole numbers, of one's own. -/
namespace Go.Proofs.YtdcekoocnoackaaGreatDoor
open Go Go.RowKit Go.MapKept

/-- A map's entries are those of a function. -/
def MpE (es : Array MapEntry) (f : Int → Option Int) : Prop :=
  (∀ e ∈ es.toList, ∃ k v : Int, e.key = .int .i64 k ∧ e.val = .int .i64 v ∧ f k = some v) ∧ (∀ k v, f k = some v → ∃ e ∈ es.toList, e.key = .int .i64 k)
def upd (f : Int → Option Int) (k : Int) (v : Option Int) : Int → Option Int := fun x => if x = k then v else f x
theorem upd_same (f : Int → Option Int) (k : Int) (v : Option Int) : upd f k v k = v := by simp [upd]
theorem upd_other (f : Int → Option Int) {k x : Int} (v : Option Int) (h : x ≠ k) : upd f k v x = f x := by simp [upd, h]
def mp (b : Nat) (f : Int → Option Int) : HP := fun h => ∃ es clk, h b = some (.map es clk) ∧ Stamped es clk ∧ MpE es f

theorem key_int {k k' : Int} (h : Value.int .i64 k = Value.int .i64 k') : k = k' := by injection h
theorem MpE.keys {es : Array MapEntry} {f : Int → Option Int} (h : MpE es f) {q : IntKind} (hq : q = .i64) : ∀ x ∈ es.toList, IsKey (.int q) x.key := by
  intro x hx
  obtain ⟨k, v, hk, _, _⟩ := h.1 x hx
  rw [hk, hq]; rfl
theorem MpE.push {es : Array MapEntry} {f : Int → Option Int} (h : MpE es f) {k v : Int} {clk : Nat} (hn : ∀ x ∈ es.toList, x.key ≠ .int .i64 k) : MpE (es.push { key := .int .i64 k, val := .int .i64 v, born := clk }) (upd f k (some v)) := by
  constructor
  · intro e he
    simp only [Array.toList_push, List.mem_append, List.mem_singleton] at he
    rcases he with he | rfl
    · obtain ⟨k', v', h1, h2, h3⟩ := h.1 e he
      have : k' ≠ k := by rintro rfl; exact hn e he h1
      exact ⟨k', v', h1, h2, by rw [upd_other _ _ this]; exact h3⟩
    · exact ⟨k, v, rfl, rfl, upd_same _ _ _⟩
  · intro x y hx
    by_cases e : x = k
    · subst e; exact ⟨{ key := .int .i64 x, val := .int .i64 v, born := clk }, by simp, rfl⟩
    · rw [upd_other _ _ e] at hx
      obtain ⟨e', h1, h2⟩ := h.2 x y hx
      exact ⟨e', by rw [Array.toList_push]; exact List.mem_append_left _ h1, h2⟩
theorem key_unique {es : Array MapEntry} {clk : Nat} (hs : Stamped es clk) {i j : Nat} {e e' : MapEntry} (hi : es.toList[i]? = some e) (hj : es.toList[j]? = some e') (hk : e.key = e'.key) : i = j := by
  have h := hs.2.2
  obtain ⟨hil, hi'⟩ := List.getElem?_eq_some_iff.1 hi
  obtain ⟨hjl, hj'⟩ := List.getElem?_eq_some_iff.1 hj
  have := (List.getElem_inj (xs := es.toList.map (·.key)) (i := i) (j := j) (h₀ := by simpa using hil) (h₁ := by simpa using hjl) h).1 (by simp only [List.getElem_map]; rw [hi', hj']; exact hk)
  exact this
theorem MpE.modify {es : Array MapEntry} {clk : Nat} {f : Int → Option Int} (h : MpE es f) (hs : Stamped es clk) {j : Nat} {e : MapEntry} {k v : Int} (hj : es.toList[j]? = some e) (hk : e.key = .int .i64 k) (g : MapEntry → MapEntry) (hgk : (g e).key = .int .i64 k) (hgv : (g e).val = .int .i64 v) :
    MpE (es.modify j g) (upd f k (some v)) := by
  have hget : ∀ i, (es.modify j g).toList[i]? = if j = i then (es.toList[i]?).map g else es.toList[i]? := by
    intro i; simp only [Array.getElem?_toList, Array.getElem?_modify]
  constructor
  · intro x hx
    obtain ⟨i, hi⟩ := List.mem_iff_getElem?.1 hx
    rw [hget] at hi
    by_cases e1 : j = i
    · subst e1
      rw [if_pos rfl, hj] at hi
      simp only [Option.map_some, Option.some.injEq] at hi
      subst hi
      exact ⟨k, v, hgk, hgv, upd_same _ _ _⟩
    · rw [if_neg e1] at hi
      obtain ⟨k', v', h1, h2, h3⟩ := h.1 x (List.mem_of_getElem? hi)
      have : k' ≠ k := by rintro rfl; exact e1 (key_unique hs hj hi (hk.trans h1.symm))
      exact ⟨k', v', h1, h2, by rw [upd_other _ _ this]; exact h3⟩
  · intro x y hx
    by_cases e1 : x = k
    · subst e1
      exact ⟨g e, List.mem_of_getElem? (i := j) (by rw [hget, if_pos rfl, hj]; rfl), hgk⟩
    · rw [upd_other _ _ e1] at hx
      obtain ⟨e', h1, h2⟩ := h.2 x y hx
      obtain ⟨i, hi⟩ := List.mem_iff_getElem?.1 h1
      refine ⟨e', List.mem_of_getElem? (i := i) ?_, h2⟩
      rw [hget, if_neg ?_, hi]
      rintro rfl
      rw [hj] at hi
      cases hi
      exact e1 (key_int (h2.symm.trans hk))
theorem MpE.erase {es : Array MapEntry} {clk : Nat} {f : Int → Option Int} (h : MpE es f) (hs : Stamped es clk) {j : Nat} {e : MapEntry} {k : Int} (hj : es.toList[j]? = some e) (hk : e.key = .int .i64 k) :
    MpE (es.eraseIdxIfInBounds j) (upd f k none) := by
  have hlt : j < es.size := by have := (List.getElem?_eq_some_iff.1 hj).1; simpa using this
  have hl : (es.eraseIdxIfInBounds j).toList = es.toList.eraseIdx j := by
    unfold Array.eraseIdxIfInBounds
    rw [dif_pos hlt, Array.toList_eraseIdx]
  rw [MpE, hl]
  constructor
  · intro x hx
    obtain ⟨i, hij, hi⟩ := List.mem_eraseIdx_iff_getElem?.1 hx
    obtain ⟨k', v', h1, h2, h3⟩ := h.1 x (List.mem_of_getElem? hi)
    have : k' ≠ k := by rintro rfl; exact hij (key_unique hs hi hj (h1.trans hk.symm))
    exact ⟨k', v', h1, h2, by rw [upd_other _ _ this]; exact h3⟩
  · intro x y hx
    by_cases e1 : x = k
    · subst e1; rw [upd_same] at hx; cases hx
    · rw [upd_other _ _ e1] at hx
      obtain ⟨e', h1, h2⟩ := h.2 x y hx
      obtain ⟨i, hi⟩ := List.mem_iff_getElem?.1 h1
      refine ⟨e', List.mem_eraseIdx_iff_getElem?.2 ⟨i, ?_, hi⟩, h2⟩
      rintro rfl
      rw [hj] at hi
      cases hi
      exact e1 (key_int (h2.symm.trans hk))
theorem MpE.same {es : Array MapEntry} {f : Int → Option Int} (h : MpE es f) {k : Int} (hn : ∀ x ∈ es.toList, x.key ≠ .int .i64 k) : upd f k none = f := by
  funext x
  by_cases e : x = k
  · subst e
    rw [upd_same]
    cases hf : f x with
    | none => rfl
    | some v =>
      obtain ⟨e', h1, h2⟩ := h.2 x v hf
      exact absurd h2 (hn e' h1)
  · rw [upd_other _ _ e]

section
variable {B : Nat} {w0 w w' : World} {F : HP} {P : Program} {b : Nat} {f : Int → Option Int} {k v : Int} {mt kt et ty : TypeId}
theorem Sat.mp_open (h : Sat B w0 w (mp b f • F)) : ∃ es clk, Stamped es clk ∧ MpE es f ∧ Sat B w0 w (blk b (.map es clk) • F) := by
  obtain ⟨p, a, g, k, ha, hj, ⟨es, clk, h1, h2, h3⟩, y⟩ := h.part
  exact ⟨es, clk, h2, h3, h.below, h.le, p, a, g, k, ha, hj, h1, y⟩
theorem Sat.mp_shut {es : Array MapEntry} {clk : Nat} (hs : Stamped es clk) (hm : MpE es f) (h : Sat B w0 w (blk b (.map es clk) • F)) : Sat B w0 w (mp b f • F) :=
  h.imp_left fun _ hp => ⟨es, clk, hp, hs, hm⟩
theorem grownBy_setObj (w : World) (b : Nat) (o : Obj) : w.grownBy { w with heap := w.heap.setIfInBounds b o } (some b) :=
  ⟨rfl, rfl, rfl, by simp, fun j _ hne => by
    have : j ≠ b := fun e => hne (by rw [e])
    simp [Ne.symm this]⟩
theorem Sat.setObj {o o' : Obj} (h : Sat B w0 w (blk b o • F)) : Sat B w0 { w with heap := w.heap.setIfInBounds b o' } (blk b o' • F) :=
  h.put (grownBy_setObj w b o') (heap_set h.heap).1

/-- v, ok := m[k]. -/
theorem Sat.run_lookup (h : Sat B w0 w (mp b f • F)) (hm : P.underlying mt = some (.map kt et)) (hk : P.underlying kt = some (.int .i64)) (hz : ∀ w, (zeroValue et).run P w = .ok (.int .i64 0) w) (c : Bool) :
    (Instr.lookup mt (.map (some b)) (.int .i64 k) c).run P w = .ok (if c then .tuple #[.int .i64 ((f k).getD 0), .bool (f k).isSome] else .int .i64 ((f k).getD 0)) w := by
  obtain ⟨es, clk, hs, he, hb⟩ := h.mp_open
  have hb' := hb.heap
  have hkk : IsKey (.int .i64) (.int .i64 k) := rfl
  rcases findNow_spec hkk es.toList 0 (he.keys rfl) with ⟨h1, h2⟩ | ⟨j, e, h1, h2, h3⟩
  · have hf : f k = none := by
      cases hf : f k with
      | none => rfl
      | some v => obtain ⟨e', g1, g2⟩ := he.2 k v hf; exact absurd g2 (h2 e' g1)
    simp [Instr.lookup, run_underlying hm, Go.MapKept.run_getObj_map hb', Go.MapKept.run_checkKey hk hkk, Go.MapKept.run_findKey hk h1, hz, hf, Result.andThen]
  · obtain ⟨k', v', g1, g2, g3⟩ := he.1 e (List.mem_of_getElem? h2)
    rw [h3] at g1
    obtain rfl := key_int g1
    simp [Instr.lookup, run_underlying hm, Go.MapKept.run_getObj_map hb', Go.MapKept.run_checkKey hk hkk, Go.MapKept.run_findKey hk h1, g2, g3, Result.andThen]
/-- m[k] = v. -/
theorem Sat.run_mapUpdate (h : Sat B w0 w (mp b f • F)) (hm : P.underlying mt = some (.map kt et)) (hk : P.underlying kt = some (.int .i64)) :
    ∃ w', (Instr.mapUpdate mt (.map (some b)) (.int .i64 k) (.int .i64 v)).run P w = .ok () w' ∧ Sat B w0 w' (mp b (upd f k (some v)) • F) := by
  obtain ⟨es, clk, hs, he, hb⟩ := h.mp_open
  have hb' := hb.heap
  have hkk : IsKey (.int .i64) (.int .i64 k) := rfl
  rcases findNow_spec hkk es.toList 0 (he.keys rfl) with ⟨h1, h2⟩ | ⟨j, e, h1, h2, h3⟩
  · refine ⟨{ w with heap := w.heap.setIfInBounds b (.map (es.push { key := .int .i64 k, val := .int .i64 v, born := clk }) (clk + 1)) }, ?_, Sat.mp_shut (stamped_push hs h2) (he.push h2) hb.setObj⟩
    simp [Instr.mapUpdate, run_underlying hm, Go.MapKept.run_getObj_map hb', Go.MapKept.run_checkKey hk hkk, Go.MapKept.run_findKey hk h1, Go.MapKept.run_setObj_map _ hb', Result.andThen]
  · have hj : es[j]? = some e := by simpa using h2
    refine ⟨{ w with heap := w.heap.setIfInBounds b (.map (es.modify j fun e => { e with key := .int .i64 k, val := .int .i64 v }) clk) }, ?_, Sat.mp_shut ?_ (he.modify hs h2 h3 _ rfl rfl) hb.setObj⟩
    · simp [Instr.mapUpdate, run_underlying hm, Go.MapKept.run_getObj_map hb', Go.MapKept.run_checkKey hk hkk, Go.MapKept.run_findKey hk h1, hj, h3, Go.MapKept.run_keyThatStays hkk, Go.MapKept.run_setObj_map _ hb', Result.andThen]
    · exact stamped_modify hs _ _ (fun _ _ => rfl) (fun e' _ he' => by rw [hj] at he'; cases he'; exact h3.symm)
/-- The entry of a key that is there, and what is stored into it. -/
theorem Sat.run_mapEntry (h : Sat B w0 w (mp b f • F)) (hm : P.underlying mt = some (.map kt et)) (hk : P.underlying kt = some (.int .i64)) {v0 : Int} (hf : f k = some v0) :
    ∃ (w' : World) (st : Int), (Instr.mapEntry mt (.map (some b)) (.int .i64 k)).run P w = .ok (.tuple #[.int .i64 v0, .int .i64 st]) w' ∧ Sat B w0 w' (mp b f • F) ∧
      ∀ (w1 : World) (B1 : Nat) (w01 : World) (F1 : HP) (v : Int), Sat B1 w01 w1 (blk b (w'.heap[b]?.getD default) • F1) →
        ∃ w2, (Instr.entryStore mt (.map (some b)) (.int .i64 st) (.int .i64 v)).run P w1 = .ok () w2 ∧ Sat B1 w01 w2 (mp b (upd f k (some v)) • F1) := by
  obtain ⟨es, clk, hs, he, hb⟩ := h.mp_open
  have hb' := hb.heap
  have hkk : IsKey (.int .i64) (.int .i64 k) := rfl
  rcases findNow_spec hkk es.toList 0 (he.keys rfl) with ⟨h1, h2⟩ | ⟨j, e, h1, h2, h3⟩
  · obtain ⟨e', g1, g2⟩ := he.2 k v0 hf
    exact absurd g2 (h2 e' g1)
  · obtain ⟨k', v', g1, g2, g3⟩ := he.1 e (List.mem_of_getElem? h2)
    rw [h3] at g1
    obtain rfl := key_int g1
    rw [hf] at g3
    cases g3
    have hj : es[j]? = some e := by simpa using h2
    have hmod : es.modify j (fun e => { e with key := .int .i64 k }) = es := by
      apply Array.ext
      · simp
      · intro i h1 h2'
        rw [Array.getElem_modify]
        split
        · rename_i e1
          subst e1
          have : es[j] = e := by rw [← Option.some_inj, ← Array.getElem?_eq_getElem]; exact hj
          rw [this, ← h3]
        · rfl
    refine ⟨{ w with heap := w.heap.setIfInBounds b (.map es clk) }, e.born, ?_, Sat.mp_shut hs he hb.setObj, ?_⟩
    · simp only [Instr.mapEntry, Sem.run_bind, run_underlying hm, Go.MapKept.run_getObj_map hb', Go.MapKept.run_checkKey hk hkk, Go.MapKept.run_findKey hk h1, Result.andThen]
      simp [hj, h3, Go.MapKept.run_keyThatStays hkk, Go.MapKept.run_setObj_map _ hb', hmod, g2, goInt]
    · intro w1 B1 w01 F1 v hS1
      have e1 : (({ w with heap := w.heap.setIfInBounds b (.map es clk) } : World).heap[b]?).getD default = .map es clk := by
        have := (hb.setObj (o' := .map es clk)).heap
        rw [this]; rfl
      rw [e1] at hS1
      have hidx : es.findIdx? (fun e' => (e'.born : Int) == (e.born : Int)) = some j := by
        rw [Array.findIdx?_eq_some_iff_getElem]
        obtain ⟨hlt, hge⟩ := Array.getElem?_eq_some_iff.1 hj
        refine ⟨hlt, by rw [hge]; simp, fun i hi => ?_⟩
        intro hb2
        have hb3 : (es[i]'(by omega)).born = e.born := Int.ofNat.inj (by simpa using hb2)
        have := (List.getElem_inj (xs := es.toList.map (·.born)) (i := i) (j := j) (h₀ := by simp; omega) (h₁ := by simpa using hlt) hs.2.1).1 (by simp only [List.getElem_map, Array.getElem_toList]; rw [hge]; exact hb3)
        omega
      refine ⟨{ w1 with heap := w1.heap.setIfInBounds b (.map (es.modify j fun e => { e with val := .int .i64 v }) clk) }, ?_, Sat.mp_shut ?_ (he.modify hs h2 h3 _ h3 rfl) hS1.setObj⟩
      · simp only [Instr.entryStore, Sem.run_bind, Go.MapKept.run_getObj_map hS1.heap, Result.andThen]
        simp [asInt, asIntOf, hidx, Go.MapKept.run_setObj_map _ hS1.heap]
      · exact stamped_modify hs _ _ (fun _ _ => rfl) (fun _ _ _ => rfl)
/-- delete(m, k). -/
theorem Sat.run_delete (h : Sat B w0 w (mp b f • F)) (hm : P.underlying mt = some (.map kt et)) (hk : P.underlying kt = some (.int .i64)) :
    ∃ w', (Builtin.delete_ #[mt, kt] ty #[.map (some b), .int .i64 k]).run P w = .ok (.tuple #[]) w' ∧ Sat B w0 w' (mp b (upd f k none) • F) := by
  obtain ⟨es, clk, hs, he, hb⟩ := h.mp_open
  have hb' := hb.heap
  have hkk : IsKey (.int .i64) (.int .i64 k) := rfl
  rcases findNow_spec hkk es.toList 0 (he.keys rfl) with ⟨h1, h2⟩ | ⟨j, e, h1, h2, h3⟩
  · refine ⟨{ w with heap := w.heap.setIfInBounds b (.map es clk) }, ?_, ?_⟩
    · simp [Builtin.delete_, run_underlying hm, Go.MapKept.run_getObj_map hb', Go.MapKept.run_checkKey hk hkk, Go.MapKept.run_findKey hk h1, Go.MapKept.run_setObj_map _ hb', Result.andThen]
    · rw [he.same h2]; exact Sat.mp_shut hs he hb.setObj
  · refine ⟨{ w with heap := w.heap.setIfInBounds b (.map (es.eraseIdxIfInBounds j) clk) }, ?_, Sat.mp_shut (stamped_erase hs _) (he.erase hs h2 h3) hb.setObj⟩
    simp [Builtin.delete_, run_underlying hm, Go.MapKept.run_getObj_map hb', Go.MapKept.run_checkKey hk hkk, Go.MapKept.run_findKey hk h1, Go.MapKept.run_setObj_map _ hb', Result.andThen]
theorem mp_new (h : Sat B w0 w F) : Sat B w0 (w.alloc (.map #[] 0)) (mp w.heap.size (fun _ => none) • F) :=
  Sat.mp_shut (stamped_empty 0) ⟨by simp, fun _ _ h => by cases h⟩ (h.alloc _)
end
end Go.Proofs.YtdcekoocnoackaaGreatDoor
