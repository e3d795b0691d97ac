import Derived.Test.YtepaanpdjadakaaGreatDoorBaseQ
/-! Tables of things that end, in plain words. -/
namespace Go.Proofs.YtepaanpdjadakaaGreatDoor

structure Itm (α : Type) where
  key : α
  id : Int
  due : Int
section
variable {α : Type} {R : List (Itm α)} {p : Itm α → Bool} {next : Int}
def ents (R : List (Itm α)) : List Ent := R.map fun x => ⟨x.id, x.due⟩
def Good (R : List (Itm α)) (next : Int) : Prop := (R.map (·.id)).Nodup ∧ ∀ x ∈ R, x.id < next
def setDue (R : List (Itm α)) (id a : Int) : List (Itm α) := R.map fun x => if x.id = id then { x with due := a } else x
def part_ (R : List (Itm α)) (p : Itm α → Bool) (k : Nat) : List (Itm α) := (R.take k).filter (fun x => !p x) ++ R.drop k
theorem ents_length : (ents R).length = R.length := by simp [ents]
theorem ents_ids : (ents R).map (·.id) = R.map (·.id) := by simp [ents]
theorem Good.nd (h : Good R next) : Nd (ents R) := by unfold Nd; rw [ents_ids]; exact h.1
theorem Good.hasnt (h : Good R next) : hasId (ents R) next = false := by
  unfold hasId
  rw [List.any_eq_false]
  intro x hx e
  unfold ents at hx
  obtain ⟨y, hy, rfl⟩ := List.mem_map.1 hx
  have := h.2 y hy
  have e' : y.id = next := by simpa using e
  omega
theorem itm_has {x : Itm α} (h : x ∈ R) : hasId (ents R) x.id = true := by
  unfold hasId
  rw [List.any_eq_true]
  exact ⟨⟨x.id, x.due⟩, List.mem_map.2 ⟨x, h, rfl⟩, by simp⟩
theorem Good.due (h : Good R next) {x : Itm α} (hx : x ∈ R) : dueAt (ents R) x.id = some x.due :=
  dueAt_of (x := ⟨x.id, x.due⟩) h.nd (List.mem_map.2 ⟨x, hx, rfl⟩)
theorem ents_setDue (id a : Int) : ents (setDue R id a) = withDue (ents R) id a := by
  unfold ents setDue withDue
  rw [List.map_map, List.map_map]
  apply List.map_congr_left
  intro x _
  simp only [Function.comp]
  by_cases e : x.id = id
  · simp [e]
  · simp [e]
theorem setDue_ids (id a : Int) : (setDue R id a).map (·.id) = R.map (·.id) := by
  unfold setDue
  rw [List.map_map]
  apply List.map_congr_left
  intro x _
  simp only [Function.comp]
  split <;> rfl
theorem setDue_keys (id a : Int) : (setDue R id a).map (·.key) = R.map (·.key) := by
  unfold setDue
  rw [List.map_map]
  apply List.map_congr_left
  intro x _
  simp only [Function.comp]
  split <;> rfl
theorem setDue_length (id a : Int) : (setDue R id a).length = R.length := by simp [setDue]
theorem Good.setDue (h : Good R next) (id a : Int) : Good (setDue R id a) next := by
  refine ⟨by rw [setDue_ids]; exact h.1, fun x hx => ?_⟩
  have : x.id ∈ (YtepaanpdjadakaaGreatDoor.setDue R id a).map (·.id) := List.mem_map.2 ⟨x, hx, rfl⟩
  rw [setDue_ids] at this
  obtain ⟨y, hy, e⟩ := List.mem_map.1 this
  rw [← e]; exact h.2 y hy
theorem Good.nil : Good ([] : List (Itm α)) next := ⟨by simp, by simp⟩
theorem Good.add (h : Good R next) (k : α) (u : Int) : Good (R ++ [⟨k, next, u⟩]) (next + 1) := by
  refine ⟨?_, ?_⟩
  · rw [List.map_append, List.nodup_append]
    refine ⟨h.1, by simp, ?_⟩
    intro a ha b hb
    obtain ⟨y, hy, rfl⟩ := List.mem_map.1 ha
    have := h.2 y hy
    simp at hb
    omega
  · intro x hx
    rw [List.mem_append] at hx
    rcases hx with hx | hx
    · have := h.2 x hx; omega
    · simp at hx; subst hx; simp only; omega
theorem ents_add (k : α) (u : Int) : ents (R ++ [⟨k, next, u⟩]) = ents R ++ [⟨next, u⟩] := by simp [ents]
theorem part_zero : part_ R p 0 = R := by simp [part_]
theorem part_all : part_ R p R.length = R.filter fun x => !p x := by simp [part_]
theorem part_sub (k : Nat) : (part_ R p k).Sublist R := by
  unfold part_
  have : ((R.take k).filter (fun x => !p x) ++ R.drop k).Sublist (R.take k ++ R.drop k) := List.filter_sublist.append (List.Sublist.refl _)
  rwa [List.take_append_drop] at this
theorem Good.sub {R' : List (Itm α)} (h : Good R next) (s : R'.Sublist R) : Good R' next :=
  ⟨(s.map _).nodup h.1, fun x hx => h.2 x (s.subset hx)⟩
theorem part_mem {k : Nat} {x : Itm α} (h : R[k]? = some x) : x ∈ part_ R p k := by
  unfold part_
  refine List.mem_append_right _ (List.mem_iff_getElem?.2 ⟨0, ?_⟩)
  rw [List.getElem?_drop]; exact h
theorem part_step {k : Nat} {x : Itm α} (h : R[k]? = some x) : part_ R p k = (R.take k).filter (fun x => !p x) ++ x :: R.drop (k + 1) := by
  unfold part_
  obtain ⟨h1, h2⟩ := List.getElem?_eq_some_iff.1 h
  rw [List.drop_eq_getElem_cons h1, h2]
theorem part_succ {k : Nat} {x : Itm α} (h : R[k]? = some x) : part_ R p (k + 1) = (R.take k).filter (fun x => !p x) ++ (if p x then [] else [x]) ++ R.drop (k + 1) := by
  unfold part_
  rw [List.take_add_one, h, Option.toList_some, List.filter_append]
  cases hp : p x <;> simp [hp]
theorem part_no {k : Nat} {x : Itm α} (h : R[k]? = some x) (hp : p x = false) : part_ R p (k + 1) = part_ R p k := by
  rw [part_succ h, part_step h, hp]; simp
theorem part_yes {k : Nat} {x : Itm α} (g : Good R next) (h : R[k]? = some x) (hp : p x = true) : without (ents (part_ R p k)) x.id = ents (part_ R p (k + 1)) := by
  have hn := (g.sub (part_sub (p := p) k)).1
  rw [part_step h] at hn
  rw [part_succ h, part_step h, hp]
  simp only [if_true, List.append_nil]
  generalize (R.take k).filter (fun x => !p x) = A at *
  generalize R.drop (k + 1) = C at *
  rw [List.map_append, List.map_cons, List.nodup_append] at hn
  obtain ⟨h1, h2, h3⟩ := hn
  rw [List.nodup_cons] at h2
  unfold without ents
  rw [List.map_append, List.map_cons, List.filter_append, List.filter_cons, List.map_append]
  simp only [bne_self_eq_false, Bool.false_eq_true, if_false]
  congr 1
  · rw [List.filter_eq_self]
    intro y hy
    obtain ⟨z, hz, rfl⟩ := List.mem_map.1 hy
    rw [bne_iff_ne]
    exact h3 _ (List.mem_map.2 ⟨z, hz, rfl⟩) _ (by simp)
  · rw [List.filter_eq_self]
    intro y hy
    obtain ⟨z, hz, rfl⟩ := List.mem_map.1 hy
    rw [bne_iff_ne]
    intro e
    exact h2.1 (List.mem_map.2 ⟨z, hz, e⟩)
end
end Go.Proofs.YtepaanpdjadakaaGreatDoor
