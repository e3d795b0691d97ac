import Derived.Test.YtepaanpdjadakaaDoorBase
/-! Dropping from the end to the start. -/
namespace Go.Proofs.YtepaanpdjadakaaDoor

section
variable {α : Type} {p : α → Bool} {R : List α} {k : Nat} {x : α}
def keepM (p : α → Bool) (R : List α) (m : Nat) : List α := R.take m ++ (R.drop m).filter (fun x => !p x)
def cntM (p : α → Bool) (R : List α) (m : Nat) : Int := ((R.length : Int) - m) - ((R.drop m).filter fun x => !p x).length
theorem keepM_len : keepM p R R.length = R := by simp [keepM]
theorem keepM_zero : keepM p R 0 = R.filter (fun x => !p x) := by simp [keepM]
theorem cntM_len : cntM p R R.length = 0 := by simp [cntM]
theorem cntM_zero : cntM p R 0 = (R.length : Int) - (R.filter fun x => !p x).length := by simp [cntM]
theorem keepM_le (m : Nat) : (keepM p R m).length ≤ R.length := by
  unfold keepM
  rw [List.length_append, List.length_take]
  have := List.length_filter_le (fun x => !p x) (R.drop m)
  rw [List.length_drop] at this
  omega
theorem cntM_le {m : Nat} (h : m ≤ R.length) : 0 ≤ cntM p R m ∧ cntM p R m ≤ R.length := by
  unfold cntM
  have := List.length_filter_le (fun x => !p x) (R.drop m)
  rw [List.length_drop] at this
  omega
theorem drop_at (h : R[k]? = some x) : R.drop k = x :: R.drop (k + 1) := by
  have hk := (List.getElem?_eq_some_iff.1 h).1
  rw [List.drop_eq_getElem_cons hk, (List.getElem?_eq_some_iff.1 h).2]
theorem take_at (h : R[k]? = some x) : R.take (k + 1) = R.take k ++ [x] := by rw [List.take_add_one, h]; rfl
theorem keepM_at (h : R[k]? = some x) : (keepM p R (k + 1))[k]? = some x := by
  have hk := (List.getElem?_eq_some_iff.1 h).1
  unfold keepM
  rw [List.getElem?_append_left (by rw [List.length_take]; omega), List.getElem?_take, if_pos (by omega), h]
theorem keepM_hit (h : R[k]? = some x) (hp : p x = true) : (keepM p R (k + 1)).take k ++ (keepM p R (k + 1)).drop (k + 1) = keepM p R k := by
  have hk := (List.getElem?_eq_some_iff.1 h).1
  have hl : (R.take (k + 1)).length = k + 1 := by rw [List.length_take]; omega
  unfold keepM
  rw [List.drop_left' hl, List.take_append_of_le_length (by omega), List.take_take, Nat.min_eq_left (by omega), drop_at h, List.filter_cons, hp]
  simp
theorem keepM_miss (h : R[k]? = some x) (hp : p x = false) : keepM p R (k + 1) = keepM p R k := by
  unfold keepM
  rw [drop_at h, List.filter_cons, hp, take_at h]
  simp
theorem cntM_hit (h : R[k]? = some x) (hp : p x = true) : cntM p R k = cntM p R (k + 1) + 1 := by
  unfold cntM
  rw [drop_at h, List.filter_cons, hp]
  simp
  omega
theorem cntM_miss (h : R[k]? = some x) (hp : p x = false) : cntM p R k = cntM p R (k + 1) := by
  unfold cntM
  rw [drop_at h, List.filter_cons, hp]
  simp
  omega
end
end Go.Proofs.YtepaanpdjadakaaDoor
