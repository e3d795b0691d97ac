import Derived.Test.YtepaanpdjadakaaDoorDueP
/-! ExpiryMoves, in plain words. -/
namespace Go.Proofs.YtepaanpdjadakaaDoor

theorem fm_congr {α β : Type} {f g : α → Option β} : ∀ {l : List α}, (∀ x ∈ l, f x = g x) → l.filterMap f = l.filterMap g
  | [], _ => rfl
  | x :: l, h => by rw [List.filterMap_cons, List.filterMap_cons, h x (by simp), fm_congr (l := l) fun y hy => h y (by simp [hy])]
section
variable (zs ts : List Int) (m : Nat) (gone : Nat → Bool) (n : Nat)
def endOf (j : Nat) : Int := if j < m then ts.getD j 0 else zs.getD j 0
def mvE (i j : Nat) : Option Ent := if j < i then (if gone j then none else some ⟨(j : Int), endOf zs ts m j⟩) else some ⟨(j : Int), zs.getD j 0⟩
def mvF (i j : Nat) : Option Ent := if j = i then some ⟨(j : Int), endOf zs ts m j⟩ else mvE zs ts m gone i j
/-- Ahead of round i; in it, behind the Move. -/
def mvS (i : Nat) : List Ent := (List.range n).filterMap (mvE zs ts m gone i)
def mvT (i : Nat) : List Ent := (List.range n).filterMap (mvF zs ts m gone i)
def leftOf (i : Nat) : Nat := ((List.range i).filter fun j => !gone j).length
def endsOf (i : Nat) : List Int := (List.range n).map fun j => if j < i then endOf zs ts m j else zs.getD j 0
variable {zs ts m gone n}
theorem mvS_zero : mvS zs ts m gone n 0 = entsOf zs n := by
  unfold mvS entsOf
  rw [← List.filterMap_eq_map]
  apply fm_congr
  intro j _
  simp [mvE]
theorem mvE_id {i j : Nat} {x : Ent} (h : mvE zs ts m gone i j = some x) : x.id = j := by
  unfold mvE at h
  split at h
  · split at h
    · cases h
    · cases h; rfl
  · cases h; rfl
theorem mvF_id {i j : Nat} {x : Ent} (h : mvF zs ts m gone i j = some x) : x.id = j := by
  unfold mvF at h
  split at h
  · cases h; rfl
  · exact mvE_id h
theorem mv_with {i : Nat} (hm : i < m) : withDue (mvS zs ts m gone n i) i (ts.getD i 0) = mvT zs ts m gone n i := by
  unfold withDue mvS mvT
  rw [List.map_filterMap]
  apply fm_congr
  intro j _
  unfold mvF
  by_cases e : j = i
  · subst e
    simp [mvE, endOf, hm]
  · rw [if_neg e]
    cases h : mvE zs ts m gone i j with
    | none => rfl
    | some x =>
      have := mvE_id h
      simp only [Option.map_some, Option.some.injEq]
      rw [if_neg (by omega)]
theorem mv_stay {i : Nat} (hm : ¬ i < m) : mvT zs ts m gone n i = mvS zs ts m gone n i := by
  unfold mvS mvT
  apply fm_congr
  intro j _
  unfold mvF
  by_cases e : j = i
  · subst e
    simp [mvE, endOf, hm]
  · rw [if_neg e]
theorem mv_gone {i : Nat} (hg : gone i = true) : without (mvT zs ts m gone n i) i = mvS zs ts m gone n (i + 1) := by
  unfold without mvS mvT
  rw [List.filter_filterMap]
  apply fm_congr
  intro j _
  unfold mvF
  by_cases e : j = i
  · subst e
    simp [mvE, hg]
  · rw [if_neg e]
    have e1 : mvE zs ts m gone (i + 1) j = mvE zs ts m gone i j := by
      unfold mvE
      by_cases h : j < i
      · rw [if_pos h, if_pos (by omega)]
      · rw [if_neg h, if_neg (by omega)]
    rw [e1]
    cases h : mvE zs ts m gone i j with
    | none => rfl
    | some x =>
      have := mvE_id h
      have hb : (x.id != (i : Int)) = true := by rw [bne_iff_ne]; omega
      simp [Option.filter, hb]
theorem mv_keep {i : Nat} (hg : gone i = false) : mvT zs ts m gone n i = mvS zs ts m gone n (i + 1) := by
  unfold mvS mvT
  apply fm_congr
  intro j _
  unfold mvF
  by_cases e : j = i
  · subst e
    simp [mvE, hg]
  · rw [if_neg e]
    unfold mvE
    by_cases h : j < i
    · rw [if_pos h, if_pos (show j < i + 1 by omega)]
    · rw [if_neg h, if_neg (show ¬ j < i + 1 by omega)]
theorem mvS_has {i : Nat} (hi : i < n) : hasId (mvS zs ts m gone n i) i = true := by
  unfold hasId
  rw [List.any_eq_true]
  refine ⟨⟨(i : Int), zs.getD i 0⟩, ?_, by simp⟩
  unfold mvS
  rw [List.mem_filterMap]
  exact ⟨i, by simpa using hi, by simp [mvE]⟩
theorem mvT_has {i : Nat} (hi : i < n) : hasId (mvT zs ts m gone n i) i = true := by
  unfold hasId
  rw [List.any_eq_true]
  refine ⟨⟨(i : Int), endOf zs ts m i⟩, ?_, by simp⟩
  unfold mvT
  rw [List.mem_filterMap]
  exact ⟨i, by simpa using hi, by simp [mvF]⟩
theorem mvS_hasnt {i : Nat} (hg : gone i = true) : hasId (mvS zs ts m gone n (i + 1)) i = false := by
  rw [← mv_gone hg]
  unfold hasId
  rw [List.any_eq_false]
  intro x hx
  rw [mem_without] at hx
  simpa using hx.2
theorem mem_mvS {x : Ent} : x ∈ mvS zs ts m gone n n → ∃ j, j < n ∧ gone j = false ∧ x = ⟨(j : Int), endOf zs ts m j⟩ := by
  intro h
  unfold mvS at h
  rw [List.mem_filterMap] at h
  obtain ⟨j, hj, h⟩ := h
  have hj' : j < n := by simpa using hj
  unfold mvE at h
  rw [if_pos hj'] at h
  cases hg : gone j
  · rw [hg] at h
    simp only [Bool.false_eq_true, if_false, Option.some.injEq] at h
    exact ⟨j, hj', hg, h.symm⟩
  · rw [hg] at h
    simp at h
theorem mvS_len : (mvS zs ts m gone n n).length = leftOf gone n := by
  unfold mvS leftOf
  have : ∀ l : List Nat, (∀ j ∈ l, j < n) → (l.filterMap (mvE zs ts m gone n)).length = (l.filter fun j => !gone j).length := by
    intro l
    induction l with
    | nil => intro _; rfl
    | cons j l ih =>
      intro h
      have h1 := ih (fun k hk => h k (List.mem_cons_of_mem _ hk))
      have h2 := h j (by simp)
      rw [List.filterMap_cons, List.filter_cons]
      unfold mvE
      rw [if_pos h2]
      cases hg : gone j
      · simp; exact h1
      · simp; exact h1
  exact this _ (fun j hj => by simpa using hj)
theorem mvS_nd {i : Nat} : Nd (mvS zs ts m gone n i) := by
  unfold Nd mvS
  have : ∀ l : List Nat, l.Nodup → ((l.filterMap (mvE zs ts m gone i)).map (·.id)).Nodup ∧ ∀ x ∈ l.filterMap (mvE zs ts m gone i), ∃ j ∈ l, x.id = (j : Int) := by
    intro l
    induction l with
    | nil => intro _; simp
    | cons j l ih =>
      intro h
      rw [List.nodup_cons] at h
      obtain ⟨h1, h2⟩ := ih h.2
      rw [List.filterMap_cons]
      cases hx : mvE zs ts m gone i j with
      | none => exact ⟨h1, fun x hx => by obtain ⟨k, hk, e⟩ := h2 x hx; exact ⟨k, List.mem_cons_of_mem _ hk, e⟩⟩
      | some x =>
        have hid := mvE_id hx
        refine ⟨?_, ?_⟩
        · simp only [List.map_cons, List.nodup_cons]
          refine ⟨fun hm => ?_, h1⟩
          obtain ⟨y, hy, e⟩ := List.mem_map.1 hm
          obtain ⟨k, hk, e2⟩ := h2 y hy
          have : k = j := by omega
          subst this
          exact h.1 hk
        · intro y hy
          rcases List.mem_cons.1 hy with rfl | hy
          · exact ⟨j, by simp, hid⟩
          · obtain ⟨k, hk, e⟩ := h2 y hy; exact ⟨k, List.mem_cons_of_mem _ hk, e⟩
  exact (this _ List.nodup_range).1
theorem left_succ (i : Nat) : leftOf gone (i + 1) = leftOf gone i + if gone i then 0 else 1 := by
  unfold leftOf
  rw [List.range_succ, List.filter_append, List.length_append]
  cases hg : gone i <;> simp [hg]
theorem left_le (i : Nat) : leftOf gone i ≤ i := by
  unfold leftOf
  have := List.length_filter_le (fun j => !gone j) (List.range i)
  simpa using this
theorem ends_length (i : Nat) : (endsOf zs ts m n i).length = n := by simp [endsOf]
theorem ends_get {i j : Nat} (hj : j < n) : (endsOf zs ts m n i)[j]? = some (if j < i then endOf zs ts m j else zs.getD j 0) := by
  unfold endsOf
  rw [List.getElem?_map, List.getElem?_range hj]; rfl
theorem ends_set {i : Nat} (hi : i < n) (hm : i < m) : (endsOf zs ts m n i).set i (ts.getD i 0) = endsOf zs ts m n (i + 1) := by
  apply List.ext_getElem?
  intro j
  rw [List.getElem?_set]
  by_cases hj : j < n
  · rw [ends_get hj, ends_get hj]
    by_cases e : i = j
    · subst e
      rw [if_pos rfl, if_pos (by rw [ends_length]; exact hi)]
      simp [endOf, hm]
    · rw [if_neg e]
      congr 1
      by_cases h : j < i
      · rw [if_pos h, if_pos (by omega)]
      · rw [if_neg h, if_neg (by omega)]
  · rw [List.getElem?_eq_none (by rw [ends_length]; omega), List.getElem?_eq_none (by rw [ends_length]; omega)]
    rw [if_neg (by omega)]
theorem ends_stay {i : Nat} (hm : ¬ i < m) : endsOf zs ts m n (i + 1) = endsOf zs ts m n i := by
  unfold endsOf
  apply List.map_congr_left
  intro j _
  by_cases h : j < i
  · rw [if_pos h, if_pos (by omega)]
  · rw [if_neg h]
    by_cases e : j = i
    · subst e; simp [endOf, hm]
    · rw [if_neg (by omega)]
theorem ends_zero : endsOf zs ts m n 0 = (List.range n).map fun j => zs.getD j 0 := by
  unfold endsOf
  apply List.map_congr_left
  intro j _
  simp
end
end Go.Proofs.YtepaanpdjadakaaDoor
