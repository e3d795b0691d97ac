import Derived.Test.YtepaanpdjadakaaDoorFrefN
/-! The reference's facts: Learn, in plain words. -/
namespace Go.Proofs.YtepaanpdjadakaaDoor
open Go Go.RowKit

def isKL (k : Fk) (f : Fct) : Bool := decide (f.key = k)
def upL (L : List Fct) (k : Fk) (u : Int) : List Fct := L.map fun f => if f.key = k then ⟨f.key, max f.due u⟩ else f
def lrnLC (room : Nat) (L : List Fct) (k : Fk) : Int := if L.any (isKL k) then 0 else if room ≤ L.length then 18 else 0
def lrnL (room : Nat) (L : List Fct) (k : Fk) (u : Int) : List Fct := if L.any (isKL k) then upL L k u else if room ≤ L.length then L else L ++ [⟨k, u⟩]
theorem any_fcts (R : List (Itm Fk)) (k : Fk) : (fcts R).any (isKL k) = R.any (isK k) := by
  unfold fcts
  rw [List.any_map]
  rfl
theorem lrnLC_fcts (room : Nat) (R : List (Itm Fk)) (k : Fk) : lrnLC room (fcts R) k = lrnC room R k := by
  unfold lrnLC lrnC
  rw [any_fcts, fcts_length]
theorem lrnL_fcts (room : Nat) (R : List (Itm Fk)) (next : Int) (k : Fk) (u : Int) : lrnL room (fcts R) k u = fcts (lrnR room R next k u) := by
  unfold lrnL lrnR
  rw [any_fcts, fcts_length]
  split
  · unfold upL upK fcts
    rw [List.map_map, List.map_map]
    apply List.map_congr_left
    intro x _
    simp only [Function.comp]
    by_cases e : x.key = k
    · simp [e, Int.max_comm]
    · simp [e]
  · split
    · rfl
    · simp [fcts]
theorem fcts_keys (R : List (Itm Fk)) : (fcts R).map (·.key) = R.map (·.key) := by
  unfold fcts
  rw [List.map_map]
  rfl
theorem upL_set {L : List Fct} {k : Nat} {f : Fct} (hn : (L.map (·.key)).Nodup) (h : L[k]? = some f) (u : Int) : upL L f.key u = L.set k ⟨f.key, max f.due u⟩ := by
  have hk := (List.getElem?_eq_some_iff.1 h).1
  unfold upL
  apply List.ext_getElem?
  intro j
  rw [List.getElem?_map]
  by_cases e : k = j
  · subst e
    rw [List.getElem?_set_self hk, h]
    simp
  · rw [List.getElem?_set_ne e]
    cases hy : L[j]? with
    | none => rfl
    | some y =>
      have hne : ¬ y.key = f.key := fun h2 => e (by
        have h1 : (L.map (·.key))[k]? = (L.map (·.key))[j]? := by rw [List.getElem?_map, List.getElem?_map, h, hy]; simp [h2]
        exact (List.getElem?_inj (by simpa using hk) hn).1 h1)
      simp [hne]
theorem set_endA {L : List Fct} {cur : Array Value} {k : Nat} {f : Fct} (h : cur.toList.take (L.length * 19) = L.flatMap Fct.enc) (hk : L[k]? = some f) (u : Int) :
    (cur.setIfInBounds (k * 19 + 18) (.int .u64 u)).toList.take (L.length * 19) = (L.set k ⟨f.key, u⟩).flatMap Fct.enc := by
  rw [Array.toList_setIfInBounds, List.take_set, h, set_end L k f u hk]
end Go.Proofs.YtepaanpdjadakaaDoor
