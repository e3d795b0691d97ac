import Derived.RowKit
/-! Plain lists. -/
namespace Go.Proofs.Ytepaanpdjadakaa

/-- The i-th; the walk does not look into it. -/
def nth (l : List Int) (i : Nat) : Int := l.getD i 0

theorem count_set_any {α : Type} [DecidableEq α] (l : List α) (i : Nat) (x y d : α) (h : i < l.length) :
    (l.set i x).count y + (if l.getD i d = y then 1 else 0) = l.count y + (if x = y then 1 else 0) := by
  induction l generalizing i with
  | nil => simp at h
  | cons a l ih =>
    cases i with
    | zero => simp [List.count_cons]; omega
    | succ i =>
      have := ih i (by simpa using h)
      simp [List.count_cons] at *
      omega
theorem getD_set {α : Type} (l : List α) (i k : Nat) (x d : α) (h : i < l.length) : (l.set i x).getD k d = if k = i then x else l.getD k d := by
  simp only [List.getD_eq_getElem?_getD, List.getElem?_set]
  by_cases e : i = k
  · subst e; simp [h]
  · simp [e, Ne.symm e]
theorem swap_perm_any {α : Type} [DecidableEq α] (l : List α) (i j : Nat) (d : α) (hi : i < l.length) (hj : j < l.length) : ((l.set i (l.getD j d)).set j (l.getD i d)).Perm l := by
  rw [List.perm_iff_count]
  intro y
  have h1 := count_set_any l i (l.getD j d) y d hi
  have h2 := count_set_any (l.set i (l.getD j d)) j (l.getD i d) y d (by simpa using hj)
  rw [getD_set _ _ _ _ _ hi] at h2
  by_cases e : j = i
  · subst e; simp only [if_true] at h2; omega
  · simp only [if_neg e] at h2; omega
theorem nth_eq {l : List Int} {i : Nat} (h : i < l.length) : l[i]? = some (nth l i) := by
  unfold nth; rw [List.getD_eq_getElem?_getD, List.getElem?_eq_getElem h]; rfl
end Go.Proofs.Ytepaanpdjadakaa
