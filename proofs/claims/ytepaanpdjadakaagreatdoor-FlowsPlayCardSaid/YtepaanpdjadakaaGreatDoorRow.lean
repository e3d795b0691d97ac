import Derived.Test.YtepaanpdjadakaaGreatDoorBase
import Derived.ProofKit
import Derived.OpenShut
import Derived.ChangeArms
import Derived.Deep.Slices
/-! Slices of things that came in. -/
namespace Go.Proofs.YtepaanpdjadakaaGreatDoor
open Go Go.RowKit Go.Deep

/-- A slice that came in, of things of a kind. -/
def RowsAt {α : Type} (e : α → List Value) (w : World) (v : Value) (l : List α) : Prop := Reads w v l.length (l.flatMap e) ∧ l.length ≤ maxLen
theorem RowsAt.below {α : Type} {e : α → List Value} {w w' : World} {v : Value} {l : List α} (h : RowsAt e w v l) (hb : Below w.heap.size w w') : RowsAt e w' v l := ⟨h.1.below hb, h.2⟩
theorem RowsAt.elem {α : Type} {e : α → List Value} {sz : Nat} (hsz : ∀ x, (e x).length = sz) {w : World} {v : Value} {l : List α} (h : RowsAt e w v l) {i : Nat} {x : α} (hi : l[i]? = some x) :
    ∃ a c, v = .slice (some a) l.length c ∧ ∀ W, Below w.heap.size w W → ∀ j u, (e x)[j]? = some u → W.cell? (a.add (i * sz + j)) = some u := by
  obtain ⟨a, c, hv, hc⟩ := h.1.elem hsz hi
  exact ⟨a, c, hv, fun W hb j u hu => by
    have := hc j u hu
    rw [hb.cell (World.block_lt_of_cell? _ _ this)]; exact this⟩
theorem RowsAt.form {α : Type} {e : α → List Value} {w : World} {v : Value} {l : List α} (h : RowsAt e w v l) : ∃ A c, v = .slice A l.length c := h.1.len
def boolC (b : Bool) : List Value := [.bool b]
def intC (k : IntKind) (n : Int) : List Value := [.int k n]
abbrev boolC_sz : Nat := 1
theorem boolC_length (b : Bool) : (boolC b).length = 1 := rfl
theorem intC_length (k : IntKind) (n : Int) : (intC k n).length = 1 := rfl
theorem intC_one (k : IntKind) (l : List Int) : ∀ u ∈ l.flatMap (intC k), u.oneCell' = true := by
  intro u hu
  rw [List.mem_flatMap] at hu
  obtain ⟨n, _, hu⟩ := hu
  simp [intC] at hu
  subst hu; rfl
theorem cut_at' (cs : List Value) (o n : Nat) : cs.drop o = (cs.drop o).take n ++ cs.drop (o + n) := by
  rw [← List.drop_drop, List.take_append_drop]
theorem flat_split' {α : Type} {e : α → List Value} {sz : Nat} (hsz : ∀ x, (e x).length = sz) (hpos : 0 < sz) {l : List α} {j : Nat} {u : Value} (h : (l.flatMap e)[j]? = some u) : ∃ (i r : Nat) (x : α), j = i * sz + r ∧ r < sz ∧ l[i]? = some x ∧ (e x)[r]? = some u := by
  have hj : j < l.length * sz := by rw [← flat_length hsz l]; exact (List.getElem?_eq_some_iff.1 h).1
  have hi : j / sz < l.length := Nat.div_lt_of_lt_mul (by rw [Nat.mul_comm]; exact hj)
  have hr : j % sz < sz := Nat.mod_lt _ hpos
  have he : j = j / sz * sz + j % sz := (Nat.div_add_mod' j sz).symm
  refine ⟨j / sz, j % sz, l[j / sz], he, hr, List.getElem?_eq_getElem hi, ?_⟩
  rw [← flat_get hsz l (j / sz) (j % sz) _ (List.getElem?_eq_getElem hi) hr, ← he]
  exact h
section
variable {P : Program} {H : Type} {enc : TypeId × Value → H} {w : World} {base : Nat} {spare : Nat → Bool} {held : Bool} {fuel : Nat} {cs : List Value} {x : DataW H × List MemPlace}
/-- One field. -/
theorem open_fld {n : Nat} {fs : Array Field} {xs : List (DataW H × List MemPlace)} (h : ∀ (i : Nat) (f : Field), fs[i]? = some f → DataW.trod enc P w base spare held n f.type ((cs.drop f.offset).take (P.cellsOf f.type)) = xs[i]?) (hl : xs.length = fs.size)
    {i t o : Nat} (hi : (fs[i]?.map fun f => (f.type, f.offset)) = some (t, o)) : ∃ y, DataW.trod enc P w base spare held n t ((cs.drop o).take (P.cellsOf t)) = some y := by
  obtain ⟨f, hf, he⟩ := Option.map_eq_some_iff.1 hi
  simp only [Prod.mk.injEq] at he
  obtain ⟨rfl, rfl⟩ := he
  have hi' : i < xs.length := by rw [hl]; exact (Array.getElem?_eq_some_iff.1 hf).1
  exact ⟨xs[i], by rw [h i f hf, List.getElem?_eq_getElem hi']⟩
theorem open_rows {α : Type} [Inhabited α] {e' : α → List Value} {t e sz : Nat} {v : Value} (ht : P.underlying t = some (.slice e)) (hc : P.cellsOf e = sz) (hpos : 0 < sz) (hsz : ∀ a, (e' a).length = sz)
    (h1 : ∀ {fuel : Nat} {cs : List Value} {x : DataW H × List MemPlace}, DataW.trod enc P w base spare held fuel e cs = some x → ∃ a, cs = e' a)
    (h : DataW.trod enc P w base spare held fuel t [v] = some x) : ∃ l : List α, RowsAt e' w v l := by
  rcases open_slice ht h with ⟨hc, _⟩ | ⟨a, len, cap, m, n, D, Pl, hv, _, hl, hm, hmm, _, hx⟩
  · simp only [List.cons.injEq, and_true] at hc
    subst hc
    exact ⟨[], .inl ⟨0, rfl, rfl, rfl⟩, Nat.zero_le _⟩
  · simp only [List.cons.injEq, and_true] at hv
    subst hv
    rw [hc] at hx
    have hlm : len ≤ m := by rw [hmm]; split <;> omega
    obtain ⟨V, hV⟩ := choose_lt (n := len) (α := α) (p := fun i r => w.cells? base (a.add (i * sz)) sz = some (e' r)) (fun i hi => by
      obtain ⟨cs', h2, h3⟩ := hx i (by omega)
      obtain ⟨r, rfl⟩ := h1 h3
      exact ⟨r, h2⟩)
    have hlen : ((List.range len).map V).length = len := by simp
    refine ⟨(List.range len).map V, .inr ⟨a, cap, by rw [hlen], fun j u hu => ?_⟩, by rw [hlen]; unfold maxLen at *; omega⟩
    obtain ⟨i, r, y, rfl, hr, hy, hu'⟩ := flat_split' hsz hpos hu
    have hi : i < len := by have := (List.getElem?_eq_some_iff.1 hy).1; simpa using this
    simp only [List.getElem?_map, List.getElem?_range hi, Option.map_some, Option.some.injEq] at hy
    subst hy
    obtain ⟨_, _, h4⟩ := World.cells?_some (hV i hi)
    rw [← add_add', h4 r hr, hu']
theorem open1_bool {t : Nat} (ht : P.underlying t = some .bool) : ∀ {fuel : Nat} {cs : List Value} {x : DataW H × List MemPlace}, DataW.trod enc P w base spare held fuel t cs = some x → ∃ a, cs = boolC a := by
  intro fuel cs x h
  obtain ⟨b, hb, _⟩ := DataW.trod_bool ht h
  exact ⟨b, hb⟩
theorem open1_int {t : Nat} {k : IntKind} (ht : P.underlying t = some (.int k)) : ∀ {fuel : Nat} {cs : List Value} {x : DataW H × List MemPlace}, DataW.trod enc P w base spare held fuel t cs = some x → ∃ a, cs = intC k a := by
  intro fuel cs x h
  obtain ⟨n, hn, _, _⟩ := DataW.trod_int ht h
  exact ⟨n, hn⟩
end
end Go.Proofs.YtepaanpdjadakaaGreatDoor
