import Derived.Test.YtepaanpdjadakaaGreatDoorRow
import Derived.Test.YtepaanpdjadakaaGreatDoorBase
import Derived.Laws.Strings
/-! Two lists held against each other, in plain words; loads out of rows that came in. -/
namespace Go.Proofs.YtepaanpdjadakaaGreatDoor
open Go Go.RowKit

def sameOf {α : Type} (eq : α → α → Bool) : List α → List α → Bool
  | [], [] => true
  | x :: xs, y :: ys => eq x y && sameOf eq xs ys
  | _, _ => false
theorem sameOf_len {α : Type} {eq : α → α → Bool} : ∀ {l m : List α}, l.length ≠ m.length → sameOf eq l m = false
  | [], [], h => absurd rfl h
  | [], _ :: _, _ => rfl
  | _ :: _, [], _ => rfl
  | x :: xs, y :: ys, h => by simp [sameOf, sameOf_len (l := xs) (m := ys) (by simpa using h)]
theorem sameOf_drop {α : Type} {eq : α → α → Bool} {l m : List α} {k : Nat} {x y : α} (hx : l[k]? = some x) (hy : m[k]? = some y) : sameOf eq (l.drop k) (m.drop k) = (eq x y && sameOf eq (l.drop (k + 1)) (m.drop (k + 1))) := by
  obtain ⟨h1, h2⟩ := List.getElem?_eq_some_iff.1 hx
  obtain ⟨h3, h4⟩ := List.getElem?_eq_some_iff.1 hy
  rw [List.drop_eq_getElem_cons h1, List.drop_eq_getElem_cons h3, h2, h4]
  rfl
theorem sameOf_refl {α : Type} {eq : α → α → Bool} (h : ∀ x, eq x x = true) : ∀ l : List α, sameOf eq l l = true
  | [] => rfl
  | x :: xs => by simp [sameOf, h x, sameOf_refl h xs]
/-- Alike, by '='. -/
def eqD {α : Type} [DecidableEq α] (a b : α) : Bool := decide (a = b)
theorem eqD_refl {α : Type} [DecidableEq α] (a : α) : eqD a a = true := by simp [eqD]
theorem sameOf_iff {α : Type} [DecidableEq α] : ∀ (l m : List α), sameOf eqD l m = decide (l = m)
  | [], [] => by simp [sameOf]
  | [], _ :: _ => by simp [sameOf]
  | _ :: _, [] => by simp [sameOf]
  | x :: xs, y :: ys => by
    rw [sameOf, sameOf_iff xs ys, eqD]
    by_cases h1 : x = y <;> by_cases h2 : xs = ys <;> simp [h1, h2]
theorem strl (x y : ByteArray) : (x.toList == y.toList) = eqD x y := by
  unfold eqD
  rw [Bool.eq_iff_iff, decide_eq_true_eq, beq_iff_eq]
  constructor
  · intro h
    rw [ByteArray.toList_eq, ByteArray.toList_eq] at h
    exact ByteArray.ext (Array.ext' h)
  · rintro rfl; rfl
def strC (s : ByteArray) : List Value := [.string s]
theorem strC_length (s : ByteArray) : (strC s).length = 1 := rfl
section
variable {P : Program} {w : World} {α : Type} {e : α → List Value} {sz : Nat} {v : Value} {l : List α} {i : Nat} {x : α} {a : Addr} {n c : Nat} {ty : TypeId} {d : TypeDesc}
theorem RowsAt.agg_at (hu : P.underlying ty = some d) (hd : d.isRow = true) (hs : (P.info? ty).map (·.size) = some sz) (hsz : ∀ x, (e x).length = sz) (h : RowsAt e w v l) (hi : l[i]? = some x) (hv : v = .slice (some a) n c) :
    (Instr.loadAt ty (.pointer (some (a.add (i * sz))))).run P w = .ok (.agg (e x).toArray) w := by
  obtain ⟨a', c', hv', hcell⟩ := h.elem hsz hi
  rw [hv] at hv'
  simp only [Value.slice.injEq, Option.some.injEq] at hv'
  obtain ⟨rfl, -, -⟩ := hv'
  exact run_loadAt_cells hu hd (by rw [hsz]; exact hs) (fun j u hu => by rw [add_add']; exact hcell w (Below.refl _ _) j u hu)
theorem RowsAt.one_at {f : α → Value} (hu : P.underlying ty = some d) (hd : d.isRow = false) (he : ∀ x, e x = [f x]) (h : RowsAt e w v l) (hi : l[i]? = some x) (hv : v = .slice (some a) n c) :
    (Instr.loadAt ty (.pointer (some (a.add i)))).run P w = .ok (f x) w := by
  obtain ⟨a', c', hv', hcell⟩ := h.elem (sz := 1) (fun x => by rw [he]; rfl) hi
  rw [hv] at hv'
  simp only [Value.slice.injEq, Option.some.injEq] at hv'
  obtain ⟨rfl, -, -⟩ := hv'
  have hc := hcell w (Below.refl _ _) 0 (f x) (by rw [he]; rfl)
  rw [Nat.mul_one, Nat.add_zero] at hc
  have hagg : (isAgg ty).run P w = .ok false w := by
    rw [run_isAgg hu]
    cases d <;> simp_all [isRowD]
  simp only [Instr.loadAt, Instr.sureAddr, Sem.run_bind, Sem.run_pure, Result.andThen_ok, loadVar, hagg]
  simp [load, Sem.run, hc]
theorem RowsAt.some_addr (h : RowsAt e w v l) (hi : l[i]? = some x) : ∃ a c, v = .slice (some a) l.length c := by
  have hlt := (List.getElem?_eq_some_iff.1 hi).1
  rcases h.1 with ⟨_, _, h0, _⟩ | ⟨a, ca, h, _⟩
  · omega
  · exact ⟨a, ca, h⟩
end
end Go.Proofs.YtepaanpdjadakaaGreatDoor
