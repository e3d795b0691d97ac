import Derived.Test.YtepaanpdjadakaaGreatDoorTabP
import Derived.Test.YtepaanpdjadakaaGreatDoorIdxP
import Derived.Test.YtepaanpdjadakaaGreatDoorClear
import Derived.Test.YtepaanpdjadakaaGreatDoorTail
import Derived.Test.YtepaanpdjadakaaGreatDoorBaseQ
import Derived.Test.YtepaanpdjadakaaGreatDoorArr2
/-! Tables of things that end. -/
namespace Go.Proofs.YtepaanpdjadakaaGreatDoor
open Go Go.RowKit

def stopOf {β : Type} (p : β → Bool) (l : List β) : Nat := match l.findIdx? p with
  | some i => i + 1
  | none => l.length
theorem stop_hit {β : Type} {p : β → Bool} {l : List β} {k : Nat} {x : β} (h : l[k]? = some x) (hf : p x = true) (hn : ∀ j y, j < k → l[j]? = some y → p y = false) : stopOf p l = k + 1 := by
  have := plc_hit h hf hn
  unfold plc at this
  unfold stopOf
  cases hq : l.findIdx? p with
  | none => rw [hq] at this; simp only at this; omega
  | some i => rw [hq] at this; simp only at this ⊢; omega
theorem stop_miss {β : Type} {p : β → Bool} {l : List β} (hn : ∀ j y, j < l.length → l[j]? = some y → p y = false) : stopOf p l = l.length := by
  have := plc_done hn (Nat.le_refl _)
  unfold plc at this
  unfold stopOf
  cases hq : l.findIdx? p with
  | none => rfl
  | some i => rw [hq] at this; simp only at this; omega
section
variable {P : Program} {B : Nat} {w0 w w' : World} {F : HP}
/-- clear of what lies behind the first i. -/
theorem Sat.run_clear_tail {g i n c sz : Nat} {cur : Array Value} {t e ty : TypeId} {z : Value} (h : Sat B w0 w (blk g (.cells cur e (0, 0)) • F)) (ht : P.underlying t = some (.slice e)) (hz : ∀ w, (zeroValue e).run P w = .ok z w) (hzs : z.cells.size = sz) (hpos : 0 < sz)
    (h1 : ∀ u ∈ z.cells.toList, u.oneCell' = true) (hi : i ≤ n) (hn : n ≤ c) (hcs : cur.size = c * sz) :
    ∃ w' cur', (Builtin.clear_ #[t] ty #[tailV g sz i n c]).run P w = .ok (.tuple #[]) w' ∧ Sat B w0 w' (blk g (.cells cur' e (0, 0)) • F) ∧ cur'.size = cur.size ∧ cur'.toList.take (i * sz) = cur.toList.take (i * sz) := by
  unfold tailV
  by_cases e : n = i
  · subst e
    refine ⟨w, cur, ?_, h, rfl, rfl⟩
    rw [Nat.sub_self]
    simp [Builtin.clear_, run_underlying ht]
  · rw [if_neg (by omega)]
    have hm : (i + (n - i)) * sz ≤ c * sz := Nat.mul_le_mul_right _ (by omega)
    rw [Nat.add_mul] at hm
    exact h.run_clear (o := i * sz) (n := n - i) (c := c - i) ht hz hzs hpos h1 (by omega)
end
section
variable {α : Type}
def itmC (ek : α → List Value) (x : Itm α) : List Value := ek x.key ++ [.int .i64 x.id]
theorem itmC_length {ek : α → List Value} {sz : Nat} (h : ∀ x, (ek x).length = sz) (x : Itm α) : (itmC ek x).length = sz + 1 := by simp [itmC, h]
theorem itmC_one {ek : α → List Value} (h : ∀ x, ∀ u ∈ ek x, u.oneCell' = true) (x : Itm α) : ∀ u ∈ itmC ek x, u.oneCell' = true := by
  intro u hu
  simp only [itmC, List.mem_append, List.mem_singleton] at hu
  rcases hu with hu | rfl
  · exact h _ u hu
  · rfl
theorem itmC_id {ek : α → List Value} {sz : Nat} (h : ∀ x, (ek x).length = sz) (x : Itm α) : (itmC ek x)[sz]? = some (.int .i64 x.id) := by
  unfold itmC
  rw [List.getElem?_append_right (by rw [h]; omega), h, Nat.sub_self]; rfl
theorem itmC_key {ek : α → List Value} (x : Itm α) {j : Nat} {u : Value} (hu : (ek x.key)[j]? = some u) : (itmC ek x)[j]? = some u := by
  unfold itmC
  rw [List.getElem?_append_left ((List.getElem?_eq_some_iff.1 hu).1)]; exact hu
theorem itmC_flat_one {ek : α → List Value} (h : ∀ x, ∀ u ∈ ek x, u.oneCell' = true) (R : List (Itm α)) : ∀ u ∈ R.flatMap (itmC ek), u.oneCell' = true := by
  intro u hu
  rw [List.mem_flatMap] at hu
  obtain ⟨x, _, hu⟩ := hu
  exact itmC_one h x u hu
/-- A table of the program's. -/
def tab (ek : α → List Value) (E T : TypeId) (sz t room : Nat) (R : List (Itm α)) (next : Int) : HP := hex fun (x : Value × Nat) => lift (Good R next)
  (blk t (.cells #[x.1, .pointer (some ⟨x.2, 0, none⟩), .int .i64 next] T) • arr E (sz + 1) x.1 R.length (R.flatMap (itmC ek)) • queue x.2 room (ents R))
variable {ek : α → List Value} {E T : TypeId} {sz t room : Nat} {R : List (Itm α)} {next : Int} {B : Nat} {w0 w : World} {F : HP} {v : Value} {q : Nat}
theorem Sat.tab_open (h : Sat B w0 w (tab ek E T sz t room R next • F)) : ∃ A c q, Good R next ∧ R.length ≤ room ∧ room ≤ 1000 ∧
    Sat B w0 w (blk t (.cells #[.slice A R.length c, .pointer (some ⟨q, 0, none⟩), .int .i64 next] T) • arr E (sz + 1) (.slice A R.length c) R.length (R.flatMap (itmC ek)) • queue q room (ents R) • F) := by
  unfold tab at h
  rw [hex_star] at h
  obtain ⟨⟨v, q⟩, h⟩ := h.ex
  rw [lift_star] at h
  obtain ⟨hg, h⟩ := h.lift
  rw [star_assoc, star_assoc] at h
  obtain ⟨A, c, hv⟩ := h.pull2.arr_form
  simp only at hv
  subst hv
  obtain ⟨h1, h2⟩ := h.pull3.queue_len
  rw [ents_length] at h1
  exact ⟨A, c, q, hg, h1, h2, h⟩
theorem Sat.tab_shut (hg : Good R next) (h : Sat B w0 w (blk t (.cells #[v, .pointer (some ⟨q, 0, none⟩), .int .i64 next] T) • arr E (sz + 1) v R.length (R.flatMap (itmC ek)) • queue q room (ents R) • F)) :
    Sat B w0 w (tab ek E T sz t room R next • F) := by
  unfold tab
  rw [hex_star]
  refine Sat.ex_mk ((v, q) : Value × Nat) ?_
  rw [lift_star]
  refine Sat.lift_mk hg ?_
  rw [star_assoc, star_assoc]
  exact h
end
/-- What is put at a place, behind which all is as it was. -/
theorem move_down {β : Type} {c l : List β} {p : β → Bool} {i j : Nat} {x : β} (hc : c.length = l.length) (h1 : c.take i = (l.take j).filter (fun x => !p x)) (h2 : c.drop j = l.drop j) (hij : i ≤ j) (hx : l[j]? = some x) (hp : p x = false) :
    (c.set i x).take (i + 1) = (l.take (j + 1)).filter (fun x => !p x) ∧ (c.set i x).drop (j + 1) = l.drop (j + 1) ∧ (c.set i x).length = l.length := by
  have hjl := (List.getElem?_eq_some_iff.1 hx).1
  refine ⟨?_, ?_, by rw [List.length_set]; exact hc⟩
  · have hr : (l.take (j + 1)).filter (fun x => !p x) = c.take i ++ [x] := by
      rw [List.take_add_one, hx, Option.toList_some, List.filter_append, ← h1]
      simp [hp]
    rw [hr, List.take_set, List.take_add_one, List.set_append_right _ _ (by simp; omega)]
    simp only [List.length_take]
    rw [Nat.min_eq_left (by omega), Nat.sub_self, List.getElem?_eq_getElem (by omega)]
    simp
  · rw [List.drop_set_of_lt (by omega)]
    have : c.drop (j + 1) = (c.drop j).drop 1 := by rw [List.drop_drop]
    rw [this, h2, List.drop_drop]
theorem stay_down {β : Type} {c l : List β} {p : β → Bool} {i j : Nat} {x : β} (h1 : c.take i = (l.take j).filter (fun x => !p x)) (h2 : c.drop j = l.drop j) (hx : l[j]? = some x) (hp : p x = true) :
    c.take i = (l.take (j + 1)).filter (fun x => !p x) ∧ c.drop (j + 1) = l.drop (j + 1) := by
  refine ⟨?_, ?_⟩
  · rw [List.take_add_one, hx, Option.toList_some, List.filter_append, ← h1]
    simp [hp]
  · have : c.drop (j + 1) = (c.drop j).drop 1 := by rw [List.drop_drop]
    rw [this, h2, List.drop_drop]
theorem filter_none {β : Type} {l : List β} {p : β → Bool} (h : ∀ x ∈ l, p x = false) : l.filter (fun x => !p x) = l := by
  rw [List.filter_eq_self]
  intro x hx
  simp [h x hx]
theorem take_none {β : Type} {l : List β} {p : β → Bool} {k : Nat} (hn : ∀ j y, j < k → l[j]? = some y → p y = false) : (l.take k).filter (fun x => !p x) = l.take k :=
  filter_none fun x hx => by
    obtain ⟨i, hi⟩ := List.mem_iff_getElem?.1 hx
    rw [List.getElem?_take] at hi
    split at hi
    · rename_i h; exact hn i x h hi
    · cases hi
end Go.Proofs.YtepaanpdjadakaaGreatDoor
