import Derived.Test.YtepaanpdjadakaaElems
/-! A struct stored at its place in a slice of one's own. -/
namespace Go.Proofs.Ytepaanpdjadakaa
open Go Go.RowKit

theorem take_put {α : Type} {enc : α → List Value} {sz : Nat} (hsz : ∀ x, (enc x).length = sz) (hpos : 0 < sz) {L : List α} {cur : Array Value} {n : Nat} (h : cur.toList.take (n * sz) = L.flatMap enc) (hn : L.length = n) (hle : n * sz ≤ cur.size)
    {i : Nat} (hi : i < n) (e : α) : (splice cur (i * sz) (enc e)).toList.take (n * sz) = (L.set i e).flatMap enc := by
  have hi2 : i * sz + sz ≤ n * sz := by
    have := Nat.mul_le_mul_right sz (show i + 1 ≤ n by omega)
    rw [Nat.add_mul] at this; omega
  apply List.ext_getElem?
  intro j
  by_cases hj : j < n * sz
  · have hq : j / sz < n := (Nat.div_lt_iff_lt_mul hpos).2 hj
    have hr : j % sz < sz := Nat.mod_lt _ hpos
    have hjj : j = j / sz * sz + j % sz := by rw [Nat.mul_comm]; exact (Nat.div_add_mod j sz).symm
    rw [List.getElem?_take, if_pos hj]
    have h1 : (splice cur (i * sz) (enc e)).toList[j]? = (splice cur (i * sz) (enc e))[j]? := by simp
    rw [h1, splice_get (by rw [hsz]; omega)]
    obtain ⟨x, hx⟩ : ∃ x, L[j / sz]? = some x := ⟨_, List.getElem?_eq_getElem (by omega)⟩
    have hcur : cur[j]? = (enc x)[j % sz]? := by
      rw [← flat_get hsz L (j / sz) (j % sz) x hx hr, ← hjj, ← h, List.getElem?_take, if_pos hj]; simp
    by_cases e1 : j / sz = i
    · have hs : (L.set i e)[j / sz]? = some e := by rw [e1, List.getElem?_set]; simp; omega
      have := flat_get hsz (L.set i e) (j / sz) (j % sz) e hs hr
      rw [← hjj] at this
      rw [this, if_neg (by rw [← e1]; omega), if_pos (by rw [hsz, ← e1]; omega)]
      congr 1
      rw [← e1]; omega
    · have hs : (L.set i e)[j / sz]? = some x := by rw [List.getElem?_set, if_neg (Ne.symm e1)]; exact hx
      have := flat_get hsz (L.set i e) (j / sz) (j % sz) x hs hr
      rw [← hjj] at this
      rw [this, hcur]
      have : j < i * sz ∨ i * sz + sz ≤ j := by
        rcases Nat.lt_or_gt_of_ne e1 with h2 | h2
        · left
          have := Nat.mul_le_mul_right sz (show j / sz + 1 ≤ i by omega)
          rw [Nat.add_mul] at this; omega
        · right
          have := Nat.mul_le_mul_right sz (show i + 1 ≤ j / sz by omega)
          rw [Nat.add_mul] at this; omega
      rcases this with h2 | h2
      · rw [if_pos h2]
      · rw [if_neg (by omega), if_neg (by rw [hsz]; omega)]
  · rw [List.getElem?_eq_none (by rw [List.length_take]; omega), List.getElem?_eq_none (by rw [flat_length hsz, List.length_set, hn]; omega)]
section
variable {B : Nat} {w0 w : World} {F : HP} {e : TypeId} {α : Type} {enc : α → List Value} {sz : Nat} {v : Value} {l : List α} {P : Program}
/-- A struct is stored at its place. -/
theorem Sat.arr_put {ty : TypeId} (hsz : ∀ x, (enc x).length = sz) (hone : ∀ x, ∀ u ∈ enc x, u.oneCell' = true) (hi : (P.info? ty).map (·.size) = some sz) (hpos : 0 < sz) (h : Sat B w0 w (arr e sz v l.length (l.flatMap enc) • F)) {i : Nat} (hil : i < l.length) (x : α) :
    ∃ g c w', v = .slice (some ⟨g, 0, none⟩) l.length c ∧ (Instr.storeAt ty (.pointer (some ⟨g, i * sz, none⟩)) (.agg (enc x).toArray)).run P w = .ok () w' ∧ Sat B w0 w' (arr e sz v (l.set i x).length ((l.set i x).flatMap enc) • F) := by
  rcases h.arr_open with ⟨_, h0, _, _⟩ | ⟨g, cap, cur, rfl, q1, q2, q3, q4, hO⟩
  · omega
  have hle : l.length * sz ≤ cur.size := by rw [q3]; exact Nat.mul_le_mul_right _ q1
  have hi2 : i * sz + sz ≤ l.length * sz := by
    have := Nat.mul_le_mul_right sz (show i + 1 ≤ l.length by omega)
    rw [Nat.add_mul] at this; omega
  have hcl : (Value.agg (enc x).toArray).cells.toList = enc x := by simp [Value.cells]
  have hcs : (Value.agg (enc x).toArray).cells.size = sz := by simp [Value.cells, hsz]
  have hst := run_storeAt_row (P := P) (o := i * sz) (ty := ty) (v := .agg (enc x).toArray) hO.heap (by rw [hi, hcs]) (by rw [hcs]; omega) (by rw [hcl]; exact hone x)
  have hS2 := hO.setRow (cs := splice cur (i * sz) (Value.agg (enc x).toArray).cells.toList)
  refine ⟨g, cap, _, rfl, hst, ?_⟩
  have htk := take_put hsz hpos q4 rfl hle hil x
  rw [List.length_set]
  refine Sat.arr_shut q1 q2 ?_ ?_ hS2
  · rw [hcl, splice_size (by rw [hsz]; omega), q3]
  · rw [hcl]; exact htk
end
end Go.Proofs.Ytepaanpdjadakaa
