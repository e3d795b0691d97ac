import Derived.Test.YtepaanpdjadakaaDoorFac4
/-! Learning, in plain words. -/
namespace Go.Proofs.YtepaanpdjadakaaDoor
open Go Go.RowKit

section
variable {R : List (Itm Fk)} {next : Int}
def isK (k : Fk) (x : Itm Fk) : Bool := decide (x.key = k)
def KNF (R : List (Itm Fk)) : Prop := (R.map (·.key)).Nodup
def upK (R : List (Itm Fk)) (k : Fk) (u : Int) : List (Itm Fk) := R.map fun x => if x.key = k then { x with due := max u x.due } else x
def lrnC (room : Nat) (R : List (Itm Fk)) (k : Fk) : Int := if R.any (isK k) then 0 else if room ≤ R.length then 18 else 0
def lrnR (room : Nat) (R : List (Itm Fk)) (next : Int) (k : Fk) (u : Int) : List (Itm Fk) := if R.any (isK k) then upK R k u else if room ≤ R.length then R else R ++ [⟨k, next, u⟩]
def lrnN (room : Nat) (R : List (Itm Fk)) (next : Int) (k : Fk) : Int := if R.any (isK k) then next else if room ≤ R.length then next else next + 1
theorem upK_due {k : Nat} {x : Itm Fk} (hn : KNF R) (hg : Good R next) (h : R[k]? = some x) (u : Int) : setDue R x.id (max u x.due) = upK R x.key u := by
  unfold setDue upK
  apply List.map_congr_left
  intro y hy
  obtain ⟨j, hj⟩ := List.mem_iff_getElem?.1 hy
  obtain ⟨h1, h2⟩ := List.getElem?_eq_some_iff.1 h
  obtain ⟨h3, h4⟩ := List.getElem?_eq_some_iff.1 hj
  by_cases e : k = j
  · subst e
    rw [h] at hj; cases hj
    simp
  · have hid : y.id ≠ x.id := by
      intro e2
      have := (List.getElem_inj (xs := R.map (·.id)) (i := k) (j := j) (h₀ := by simpa using h1) (h₁ := by simpa using h3) hg.1).1 (by simp only [List.getElem_map]; rw [h2, h4, e2])
      exact e this
    have hky : y.key ≠ x.key := by
      intro e2
      have := (List.getElem_inj (xs := R.map (·.key)) (i := k) (j := j) (h₀ := by simpa using h1) (h₁ := by simpa using h3) (show (R.map (·.key)).Nodup from hn)).1 (by simp only [List.getElem_map]; rw [h2, h4, e2])
      exact e this
    rw [if_neg hid, if_neg hky]
theorem upK_set {k : Nat} {x : Itm Fk} (hn : KNF R) (h : R[k]? = some x) (u : Int) : upK R x.key u = R.set k { x with due := max u x.due } := by
  have hk := (List.getElem?_eq_some_iff.1 h).1
  unfold upK
  apply List.ext_getElem?
  intro j
  rw [List.getElem?_map]
  by_cases e : k = j
  · subst e
    rw [List.getElem?_set_self hk, h]
    simp
  · rw [List.getElem?_set_ne e]
    cases hy : R[j]? with
    | none => rfl
    | some y =>
      have hne : ¬ y.key = x.key := fun h2 => e (by
        have h1 : (R.map (·.key))[k]? = (R.map (·.key))[j]? := by rw [List.getElem?_map, List.getElem?_map, h, hy]; simp [h2]
        exact (List.getElem?_inj (by simpa using hk) (show (R.map (·.key)).Nodup from hn)).1 h1)
      simp [hne]
theorem fcts_set (k : Nat) (x : Itm Fk) : fcts (R.set k x) = (fcts R).set k ⟨x.key, x.due⟩ := by
  unfold fcts
  rw [List.map_set]
theorem setDue_cellsF (id u : Int) : (setDue R id u).flatMap (itmC Fk.enc) = R.flatMap (itmC Fk.enc) := by
  unfold setDue
  rw [List.flatMap_map]
  congr 1
  funext x
  unfold itmC
  split <;> rfl
/-- One fact's end is another one now. -/
theorem set_end : ∀ (l : List Fct) (k : Nat) (f : Fct) (u : Int), l[k]? = some f → (l.flatMap Fct.enc).set (k * 19 + 18) (.int .u64 u) = (l.set k ⟨f.key, u⟩).flatMap Fct.enc := by
  intro l
  induction l with
  | nil => intro k f u h; simp at h
  | cons y l ih =>
    intro k f u h
    cases k with
    | zero =>
      simp only [List.getElem?_cons_zero, Option.some.injEq] at h
      subst h
      rw [List.flatMap_cons, List.set_append_left _ _ (by rw [Fct.enc_length]; omega)]
      rw [List.set_cons_zero, List.flatMap_cons]
      congr 1
      unfold Fct.enc
      rw [List.set_append_right _ _ (by rw [Fk.enc_length]; omega), Fk.enc_length]
      rfl
    | succ k =>
      rw [List.flatMap_cons, List.set_append_right _ _ (by rw [Fct.enc_length]; omega), Fct.enc_length, List.set_cons_succ, List.flatMap_cons]
      congr 1
      rw [show (k + 1) * 19 + 18 - 19 = k * 19 + 18 by omega]
      exact ih k f u (by simpa using h)
theorem KNF.nil : KNF [] := by simp [KNF]
theorem KNF.filter (h : KNF R) (p : Itm Fk → Bool) : KNF (R.filter p) := (List.filter_sublist.map _).nodup h
theorem upK_keys {k : Fk} {u : Int} : (upK R k u).map (·.key) = R.map (·.key) := by
  unfold upK
  rw [List.map_map]
  apply List.map_congr_left
  intro x _
  simp only [Function.comp]
  split <;> rfl
theorem upK_length {k : Fk} {u : Int} : (upK R k u).length = R.length := by simp [upK]
theorem any_keyF {k : Fk} : R.any (isK k) = true ↔ k ∈ R.map (·.key) := by
  rw [List.any_eq_true, List.mem_map]
  constructor
  · rintro ⟨x, hx, h⟩; exact ⟨x, hx, by simpa [isK] using h⟩
  · rintro ⟨x, hx, h⟩; exact ⟨x, hx, by simpa [isK] using h⟩
theorem KNF.add (h : KNF R) (room : Nat) (next : Int) (k : Fk) (u : Int) : KNF (lrnR room R next k u) := by
  unfold lrnR
  cases ha : R.any (isK k)
  · simp only [Bool.false_eq_true, if_false]
    split
    · exact h
    · unfold KNF at *
      rw [List.map_append, List.nodup_append]
      refine ⟨h, by simp, ?_⟩
      intro a ha' b hb
      simp only [List.map_cons, List.map_nil, List.mem_singleton] at hb
      subst hb
      rintro rfl
      rw [any_keyF.2 ha'] at ha
      cases ha
  · simp only [if_true]
    unfold KNF at *
    rw [upK_keys]; exact h
theorem lrnR_le (room : Nat) (R : List (Itm Fk)) (next : Int) (k : Fk) (u : Int) : (lrnR room R next k u).length ≤ R.length + 1 := by
  unfold lrnR
  split
  · simp [upK]
  · split
    · omega
    · simp
theorem lrnN_le (room : Nat) (R : List (Itm Fk)) (next : Int) (k : Fk) : next ≤ lrnN room R next k ∧ lrnN room R next k ≤ next + 1 := by
  unfold lrnN
  split
  · omega
  · split <;> omega
end
end Go.Proofs.YtepaanpdjadakaaDoor
