import Derived.Test.YtepaanpdjadakaaGreatDoorBaseQ
import Derived.Test.YtepaanpdjadakaaGreatDoorIdxP
import Derived.Test.YtepaanpdjadakaaGreatDoorRow
/-! More on slices of one's own; entries that a reference has. -/
namespace Go.Proofs.YtepaanpdjadakaaGreatDoor
open Go Go.RowKit

theorem load_one {P : Program} {w : World} {p : Addr} {ty : TypeId} {v : Value} {d : TypeDesc} (hu : P.underlying ty = some d) (hd : isRowD d = false) (h : w.cell? p = some v) : (Instr.loadAt ty (.pointer (some p))).run P w = .ok v w := by
  have hagg : (isAgg ty).run P w = .ok false w := by rw [run_isAgg hu, hd]
  simp only [Instr.loadAt, Instr.sureAddr, Sem.run_bind, Sem.run_pure, Result.andThen_ok, loadVar, hagg]
  simp [load, Sem.run, h]
theorem cell_heap {w : World} {g o : Nat} {cur : Array Value} {t : TypeId} {fr : Nat × Nat} {v : Value} (h : w.heap[g]? = some (.cells cur t fr)) (hv : cur[o]? = some v) : w.cell? ⟨g, o, none⟩ = some v := by
  simp only [World.cell?, h]; exact hv
section
variable {B : Nat} {w0 w w' : World} {F : HP} {α : Type} {enc : α → List Value} {sz c n : Nat} {l : List α} {A : Option Addr} {e : TypeId} {k : Nat} {x : α}
/-- The cells of an element. -/
theorem Sat.arr_at (hsz : ∀ x, (enc x).length = sz) (h : Sat B w0 w (arr e sz (.slice A n c) n (l.flatMap enc) • F)) (hn : l.length = n) (hk : l[k]? = some x) :
    ∃ g, A = some ⟨g, 0, none⟩ ∧ B ≤ g ∧ ∀ j u, (enc x)[j]? = some u → w.cell? ⟨g, k * sz + j, none⟩ = some u := by
  rcases h.arr_open with ⟨_, h0, _, _⟩ | ⟨g, cap, cur, hv, q1, q2, q3, q4, hSb⟩
  · have := (List.getElem?_eq_some_iff.1 hk).1; omega
  simp only [Value.slice.injEq] at hv
  obtain ⟨rfl, _, rfl⟩ := hv
  exact ⟨g, rfl, hSb.ge, fun j u hu => cell_heap hSb.heap (cur_at hsz q4 hk j u hu)⟩
end
theorem set_of_due {S : List Ent} {i : Nat} {id a : Int} {x : Ent} (hn : Nd S) (h : S[i]? = some x) (hx : x.id = id) : S.set i ⟨id, a⟩ = withDue S id a := by
  apply List.ext_getElem?
  intro j
  unfold withDue
  rw [List.getElem?_set, List.getElem?_map]
  obtain ⟨h1, h2⟩ := List.getElem?_eq_some_iff.1 h
  by_cases e : i = j
  · subst e
    rw [if_pos rfl, if_pos h1, h]
    simp [hx]
  · rw [if_neg e]
    by_cases hj : j < S.length
    · rw [List.getElem?_eq_getElem hj]
      simp only [Option.map_some, Option.some.injEq]
      rw [if_neg]
      intro e2
      unfold Nd at hn
      have := (List.getElem_inj (xs := S.map (·.id)) (i := i) (j := j) (h₀ := by simpa using h1) (h₁ := by simpa using hj) hn).1 (by simp only [List.getElem_map]; rw [h2, e2, hx])
      exact e this
    · rw [List.getElem?_eq_none (by omega)]; rfl
theorem cut_without {S : List Ent} {i : Nat} {id : Int} {x : Ent} (hn : Nd S) (h : S[i]? = some x) (hx : x.id = id) : S.take i ++ S.drop (i + 1) = without S id := by
  rw [cut_filter (key := Ent.id) hn h]
  unfold without
  congr 1
  funext y
  rw [hx]
  by_cases e : y.id = id <;> simp [e]
/-- The place of an id. -/
def eplc (S : List Ent) (id : Int) : Int := plc (fun x => x.id == id) S
theorem eplc_cases (S : List Ent) (id : Int) : (eplc S id = -1 ∧ hasId S id = false) ∨ ∃ (k : Nat) (x : Ent), S[k]? = some x ∧ x.id = id ∧ eplc S id = k ∧ hasId S id = true := by
  rcases plc_cases (fun x : Ent => x.id == id) S with ⟨h1, h2⟩ | ⟨k, x, h1, h2, h3, _⟩
  · refine .inl ⟨h1, ?_⟩
    unfold hasId
    rw [List.any_eq_false]
    intro x hx
    simpa using h2 x hx
  · refine .inr ⟨k, x, h1, by simpa using h2, h3, ?_⟩
    unfold hasId
    rw [List.any_eq_true]
    exact ⟨x, List.mem_of_getElem? h1, h2⟩
/-- The best of the first ones; -1: there are none. -/
def BestIs (S : List Ent) (k : Nat) (v : Int) : Prop := (k = 0 ∧ v = -1) ∨ ∃ m : Nat, m < k ∧ v = m ∧ ∀ j, j < k → (Hp.g S j).lt (Hp.g S m) = false
theorem best_first {S : List Ent} : BestIs S 1 0 := by
  refine .inr ⟨0, by omega, rfl, fun j hj => ?_⟩
  have e : j = 0 := by omega
  rw [e]
  exact Ent.lt_irrefl _
theorem best_new {S : List Ent} {k m : Nat} (h : ∀ j, j < k → (Hp.g S j).lt (Hp.g S m) = false) (hlt : (Hp.g S k).lt (Hp.g S m) = true) : BestIs S (k + 1) k := by
  refine .inr ⟨k, by omega, rfl, fun j hj => ?_⟩
  by_cases e : j = k
  · subst e; exact Ent.lt_irrefl _
  · exact Ent.le_trans (Ent.le_of_lt hlt) (h j (by omega))
theorem best_old {S : List Ent} {k m : Nat} (hm : m < k) (h : ∀ j, j < k → (Hp.g S j).lt (Hp.g S m) = false) (hlt : (Hp.g S k).lt (Hp.g S m) = false) : BestIs S (k + 1) m := by
  refine .inr ⟨m, by omega, rfl, fun j hj => ?_⟩
  by_cases e : j = k
  · subst e; exact hlt
  · exact h j (by omega)
theorem best_min {S : List Ent} {m : Nat} (hm : m < S.length) (h : ∀ j, j < S.length → (Hp.g S j).lt (Hp.g S m) = false) : minE S = some (Hp.g S m) :=
  minE_of (g_mem hm) fun x hx => by
    obtain ⟨i, hi, rfl⟩ := mem_g hx
    exact h i hi
theorem dueL_nd {S : List Ent} (h : Nd S) (id : Int) : Nd (without S id) := h.without id
section
variable {B : Nat} {w0 w w' : World} {F : HP} {b : Nat} {n : Int} {S : List Ent} {v : Value}
theorem held_any (n : Int) (w : World) : Calls Tryz.prog 48 #[.int .i64 n] w fun e w' => e = .returned (.int .i64 (roomOf n)) ∧ w' = w := by
  have hr : max 0 (min n 1000) = (roomOf n : Int) := by unfold roomOf; omega
  have HR := Lib.hid hr
  clear hr
  go_enter Tryz.func48, Tryz.ntmps48
  go_wp2_with fail
  go_ret
  rw [HR.out]
  exact ⟨rfl, rfl⟩
end
end Go.Proofs.YtepaanpdjadakaaGreatDoor
