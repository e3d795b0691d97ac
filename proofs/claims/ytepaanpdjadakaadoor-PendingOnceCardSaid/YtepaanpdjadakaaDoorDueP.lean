import Derived.Test.YtepaanpdjadakaaDoorExp13
/-! What is due, in plain words. -/
namespace Go.Proofs.YtepaanpdjadakaaDoor

theorem Ent.lt_of {a b : Ent} (h : b.lt a = false) (hne : a.id ≠ b.id) : a.lt b = true := by
  cases h2 : a.lt b with
  | true => rfl
  | false => exact absurd (congrArg Ent.id (Ent.eq_of_le h2 h)) hne
theorem Nd.without {S : List Ent} (h : Nd S) (id : Int) : Nd (without S id) := by
  unfold Nd YtepaanpdjadakaaDoor.without at *
  exact (List.filter_sublist.map _).nodup h
theorem mem_without {S : List Ent} {id : Int} {x : Ent} : x ∈ without S id ↔ x ∈ S ∧ x.id ≠ id := by
  unfold without; rw [List.mem_filter, bne_iff_ne]
theorem without_perm_of {S : List Ent} {m : Ent} (h : Nd S) (hm : m ∈ S) : (m :: without S m.id).Perm S := by
  induction S with
  | nil => cases hm
  | cons e r ih =>
    unfold Nd at h
    rw [List.map_cons, List.nodup_cons] at h
    unfold without
    rw [List.filter_cons]
    rcases List.mem_cons.1 hm with rfl | hm
    · simp only [bne_self_eq_false, Bool.false_eq_true, if_false]
      have : r.filter (fun e => e.id != m.id) = r := by
        rw [List.filter_eq_self]
        intro x hx
        rw [bne_iff_ne]
        intro e
        exact h.1 (List.mem_map.2 ⟨x, hx, e⟩)
      rw [this]
    · have hne : (e.id != m.id) = true := by
        rw [bne_iff_ne]; intro e1; exact h.1 (List.mem_map.2 ⟨m, hm, e1.symm⟩)
      rw [hne, if_pos rfl]
      exact (List.Perm.swap _ _ _).trans ((ih h.2 hm).cons e)
theorem dueL_spec : ∀ (k : Nat) (S : List Ent) (now : Int), S.length ≤ k → Nd S →
    ((dueL k S now).1 ++ (dueL k S now).2).Perm S ∧ (∀ x ∈ (dueL k S now).1, x.due ≤ now) ∧ (∀ x ∈ (dueL k S now).2, now < x.due) ∧ (dueL k S now).1.Pairwise (fun a b => a.lt b = true) := by
  intro k
  induction k with
  | zero =>
    intro S now hk _
    obtain rfl : S = [] := List.eq_nil_of_length_eq_zero (by omega)
    simp [dueL]
  | succ k ih =>
    intro S now hk hn
    by_cases hs : ∃ m, minE S = some m ∧ ¬ now < m.due
    · obtain ⟨m, hm, hd⟩ := hs
      obtain ⟨hm1, hm2⟩ := minE_mem hm
      obtain ⟨h1, h2, h3, h4⟩ := ih (without S m.id) now (by have := without_lt hm1; omega) (hn.without _)
      rw [dueL_go hm hd]
      refine ⟨?_, ?_, h3, ?_⟩
      · exact (List.Perm.cons m h1).trans (without_perm_of hn hm1)
      · intro x hx
        rcases List.mem_cons.1 hx with rfl | hx
        · omega
        · exact h2 x hx
      · rw [List.pairwise_cons]
        refine ⟨fun y hy => ?_, h4⟩
        have hy2 : y ∈ without S m.id := h1.mem_iff.1 (List.mem_append_left _ hy)
        rw [mem_without] at hy2
        exact Ent.lt_of (hm2 y hy2.1) (Ne.symm hy2.2)
    · have hs' : ∀ m, minE S = some m → now < m.due := fun m hm => by
        by_cases hd : now < m.due
        · exact hd
        · exact absurd ⟨m, hm, hd⟩ hs
      rw [dueL_stop hs']
      refine ⟨by simp, by simp, ?_, by simp⟩
      intro x hx
      cases hm : minE S with
      | none => rw [minE_none] at hm; subst hm; cases hx
      | some m =>
        have h1 := hs' m hm
        have h2 := (minE_mem hm).2 x hx
        rw [Ent.lt_false] at h2
        omega
theorem dueL_count {k : Nat} {S : List Ent} {now : Int} (hk : S.length ≤ k) (hn : Nd S) : (dueL k S now).1.length = S.countP (fun e => decide (e.due ≤ now)) ∧ (dueL k S now).2.length = S.length - S.countP (fun e => decide (e.due ≤ now)) := by
  obtain ⟨h1, h2, h3, _⟩ := dueL_spec k S now hk hn
  have hc := h1.countP_eq (fun e => decide (e.due ≤ now))
  rw [List.countP_append] at hc
  have e1 : (dueL k S now).1.countP (fun e => decide (e.due ≤ now)) = (dueL k S now).1.length := by
    rw [List.countP_eq_length]; intro x hx; simpa using h2 x hx
  have e2 : (dueL k S now).2.countP (fun e => decide (e.due ≤ now)) = 0 := by
    rw [List.countP_eq_zero]; intro x hx; have := h3 x hx; simp; omega
  have hl := h1.length_eq
  rw [List.length_append] at hl
  omega
/-- Entries pushed one behind the other, with numbers from 0 on. -/
def entsOf (zs : List Int) (k : Nat) : List Ent := (List.range k).map fun (i : Nat) => ⟨(i : Int), zs.getD i 0⟩
theorem entsOf_length (zs : List Int) (k : Nat) : (entsOf zs k).length = k := by simp [entsOf]
theorem entsOf_succ (zs : List Int) (k : Nat) : entsOf zs (k + 1) = entsOf zs k ++ [⟨(k : Int), zs.getD k 0⟩] := by simp [entsOf, List.range_succ]
theorem mem_ents {zs : List Int} {k : Nat} {x : Ent} : x ∈ entsOf zs k ↔ ∃ i : Nat, i < k ∧ x = ⟨(i : Int), zs.getD i 0⟩ := by
  unfold entsOf
  rw [List.mem_map]
  constructor
  · rintro ⟨i, hi, rfl⟩; exact ⟨i, by simpa using hi, rfl⟩
  · rintro ⟨i, hi, rfl⟩; exact ⟨i, by simpa using hi, rfl⟩
theorem ents_has (zs : List Int) (k : Nat) : hasId (entsOf zs k) k = false := by
  unfold hasId
  rw [List.any_eq_false]
  intro x hx e
  obtain ⟨i, hi, rfl⟩ := mem_ents.1 hx
  have : (i : Int) = k := by simpa using e
  omega
theorem ents_push {room : Nat} (zs : List Int) (k : Nat) (h : k < room) : pushC room (entsOf zs k) k = 0 ∧ pushS room (entsOf zs k) k (zs.getD k 0) = entsOf zs (k + 1) := by
  unfold pushC pushS
  rw [ents_has, entsOf_length, entsOf_succ]
  simp only [Bool.false_eq_true, if_false]
  rw [if_neg (by omega), if_neg (by omega)]
  exact ⟨rfl, rfl⟩
theorem ents_nd (zs : List Int) (k : Nat) : Nd (entsOf zs k) := by
  unfold Nd entsOf
  rw [List.map_map]
  rw [List.nodup_iff_pairwise_ne, List.pairwise_map]
  refine List.Pairwise.imp ?_ (List.nodup_iff_pairwise_ne.1 List.nodup_range)
  intro a b h e
  simp only [Function.comp] at e
  omega
def cntOf (zs : List Int) (now : Int) (k : Nat) : Nat := (entsOf zs k).countP fun e => decide (e.due ≤ now)
theorem cnt_succ (zs : List Int) (now : Int) (k : Nat) : cntOf zs now (k + 1) = cntOf zs now k + if zs.getD k 0 ≤ now then 1 else 0 := by
  unfold cntOf
  rw [entsOf_succ, List.countP_append, List.countP_singleton]
  simp
theorem cnt_le (zs : List Int) (now : Int) (k : Nat) : cntOf zs now k ≤ k := by
  have := List.countP_le_length (p := fun e : Ent => decide (e.due ≤ now)) (l := entsOf zs k)
  rw [entsOf_length] at this
  exact this
end Go.Proofs.YtepaanpdjadakaaDoor
