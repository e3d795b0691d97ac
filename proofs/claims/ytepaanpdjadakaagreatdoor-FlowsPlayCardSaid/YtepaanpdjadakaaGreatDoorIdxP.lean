import Derived.Test.YtepaanpdjadakaaGreatDoorBase
/-! Places in lists, in plain words. -/
namespace Go.Proofs.YtepaanpdjadakaaGreatDoor

section
variable {α β : Type} {f : α → Bool} {l : List α} {k : Nat} {x : α}
/-- The first place of which something is so; -1: none. -/
def plc (f : α → Bool) (l : List α) : Int := match l.findIdx? f with
  | some i => (i : Int)
  | none => -1
theorem plc_hit (h : l[k]? = some x) (hf : f x = true) (hn : ∀ j y, j < k → l[j]? = some y → f y = false) : plc f l = k := by
  obtain ⟨h1, h2⟩ := List.getElem?_eq_some_iff.1 h
  have : l.findIdx? f = some k := by
    rw [List.findIdx?_eq_some_iff_getElem]
    refine ⟨h1, by rw [h2]; exact hf, fun j hj => ?_⟩
    have := hn j l[j] hj (List.getElem?_eq_getElem _)
    simp [this]
  unfold plc
  rw [this]
theorem plc_miss (hn : ∀ x ∈ l, f x = false) : plc f l = -1 := by
  have : l.findIdx? f = none := by
    rw [List.findIdx?_eq_none_iff]; exact hn
  unfold plc
  rw [this]
theorem plc_cases (f : α → Bool) (l : List α) : (plc f l = -1 ∧ ∀ x ∈ l, f x = false) ∨ ∃ (k : Nat) (x : α), l[k]? = some x ∧ f x = true ∧ plc f l = k ∧ ∀ j y, j < k → l[j]? = some y → f y = false := by
  unfold plc
  cases h : l.findIdx? f with
  | none =>
    rw [List.findIdx?_eq_none_iff] at h
    exact .inl ⟨rfl, h⟩
  | some i =>
    rw [List.findIdx?_eq_some_iff_getElem] at h
    obtain ⟨h1, h2, h3⟩ := h
    refine .inr ⟨i, l[i], List.getElem?_eq_getElem h1, h2, rfl, fun j y hj hy => ?_⟩
    obtain ⟨h4, rfl⟩ := List.getElem?_eq_some_iff.1 hy
    simpa using h3 j hj
theorem plc_done (hn : ∀ j y, j < k → l[j]? = some y → f y = false) (hk : l.length ≤ k) : plc f l = -1 :=
  plc_miss fun x hx => by
    obtain ⟨i, hi⟩ := List.mem_iff_getElem?.1 hx
    exact hn i x (by have := (List.getElem?_eq_some_iff.1 hi).1; omega) hi
theorem plc_next (hn : ∀ j y, j < k → l[j]? = some y → f y = false) (h : l[k]? = some x) (hf : f x = false) : ∀ j y, j < k + 1 → l[j]? = some y → f y = false := by
  intro j y hj hy
  by_cases e : j = k
  · subst e; rw [h] at hy; cases hy; exact hf
  · exact hn j y (by omega) hy
/-- One taken out, in a list where no two have one key. -/
theorem cut_filter [DecidableEq β] {key : α → β} (hn : (l.map key).Nodup) (h : l[k]? = some x) : l.take k ++ l.drop (k + 1) = l.filter fun y => !decide (key y = key x) := by
  obtain ⟨h1, h2⟩ := List.getElem?_eq_some_iff.1 h
  have hs : l = l.take k ++ x :: l.drop (k + 1) := by
    conv => lhs; rw [← List.take_append_drop k l, List.drop_eq_getElem_cons h1, h2]
  have hn' := hn
  rw [hs] at hn'
  rw [List.map_append, List.map_cons, List.nodup_append] at hn'
  obtain ⟨a1, a2, a3⟩ := hn'
  rw [List.nodup_cons] at a2
  have h3 : (l.take k ++ x :: l.drop (k + 1)).filter (fun y => !decide (key y = key x)) = l.take k ++ l.drop (k + 1) := by
    rw [List.filter_append, List.filter_cons]
    simp only [decide_true, Bool.not_true, Bool.false_eq_true, if_false]
    congr 1
    · rw [List.filter_eq_self]
      intro y hy
      have := a3 (key y) (List.mem_map.2 ⟨y, hy, rfl⟩) (key x) (by simp)
      simp [this]
    · rw [List.filter_eq_self]
      intro y hy
      have : key y ≠ key x := fun e => a2.1 (by rw [← e]; exact List.mem_map.2 ⟨y, hy, rfl⟩)
      simp [this]
  rw [← h3, ← hs]
end
end Go.Proofs.YtepaanpdjadakaaGreatDoor
