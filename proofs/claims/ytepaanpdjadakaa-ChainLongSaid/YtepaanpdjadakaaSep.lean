import Derived.WalkKit
import Derived.Below
import Derived.Deep.Draws
namespace Go.Proofs.Ytepaanpdjadakaa
open Go Go.RowKit

/-- A part of the heap. -/
abbrev Part := Nat → Option Obj
def Part.apart (g h : Part) : Prop := ∀ b, g b = none ∨ h b = none
def Part.join (g h : Part) : Part := fun b => match g b with | some o => some o | none => h b

/-- What holds of a part of the heap. -/
def HP := Part → Prop

def blk (b : Nat) (o : Obj) : HP := fun h => h b = some o
def emp : HP := fun _ => True
def star (A B : HP) : HP := fun h => ∃ g k, Part.apart g k ∧ h = Part.join g k ∧ A g ∧ B k
def hex {α : Type} (A : α → HP) : HP := fun h => ∃ x, A x h
def lift (p : Prop) (A : HP) : HP := fun h => p ∧ A h
instance : HSMul HP HP HP := ⟨star⟩

theorem join_comm {g k : Part} (h : Part.apart g k) : Part.join g k = Part.join k g := by
  funext b
  unfold Part.join
  rcases h b with e | e <;> rw [e]
  · cases k b <;> rfl
  · cases g b <;> rfl
theorem star_comm (A B : HP) : A • B = B • A := by
  funext h
  apply propext
  constructor
  · rintro ⟨g, k, ha, rfl, x, y⟩
    exact ⟨k, g, fun b => (ha b).symm, join_comm ha, y, x⟩
  · rintro ⟨g, k, ha, rfl, x, y⟩
    exact ⟨k, g, fun b => (ha b).symm, join_comm ha, y, x⟩
theorem join_none {g k : Part} {b : Nat} : Part.join g k b = none ↔ g b = none ∧ k b = none := by
  unfold Part.join
  cases g b <;> simp
theorem join_assoc (a b c : Part) : Part.join (Part.join a b) c = Part.join a (Part.join b c) := by
  funext x
  unfold Part.join
  cases a x <;> simp
theorem star_assoc (A B C : HP) : (A • B) • C = A • B • C := by
  funext h
  apply propext
  constructor
  · rintro ⟨g, k, ha, rfl, ⟨g1, g2, hb, rfl, x, y⟩, z⟩
    refine ⟨g1, Part.join g2 k, fun b => ?_, (join_assoc _ _ _), x, g2, k, fun b => ?_, rfl, y, z⟩
    · rcases ha b with e | e
      · exact .inl (join_none.1 e).1
      · rcases hb b with e' | e'
        · exact .inl e'
        · exact .inr (join_none.2 ⟨e', e⟩)
    · rcases ha b with e | e
      · exact .inl (join_none.1 e).2
      · exact .inr e
  · rintro ⟨g, k, ha, rfl, x, g1, g2, hb, rfl, y, z⟩
    refine ⟨Part.join g g1, g2, fun b => ?_, (join_assoc _ _ _).symm, ⟨g, g1, fun b => ?_, rfl, x, y⟩, z⟩
    · rcases hb b with e | e
      · rcases ha b with e' | e'
        · exact .inl (join_none.2 ⟨e', e⟩)
        · exact .inr (join_none.1 e').2
      · exact .inr e
    · rcases ha b with e | e
      · exact .inl e
      · exact .inr (join_none.1 e).1
instance : Std.Commutative (HSMul.hSMul : HP → HP → HP) := ⟨star_comm⟩
instance : Std.Associative (HSMul.hSMul : HP → HP → HP) := ⟨star_assoc⟩
theorem star_left_comm (A B C : HP) : A • B • C = B • A • C := by
  rw [← star_assoc, star_comm A B, star_assoc]
theorem hex_star {α : Type} (A : α → HP) (F : HP) : hex A • F = hex fun x => A x • F := by
  funext h
  apply propext
  constructor
  · rintro ⟨g, k, ha, e, ⟨x, y⟩, z⟩; exact ⟨x, g, k, ha, e, y, z⟩
  · rintro ⟨x, g, k, ha, e, y, z⟩; exact ⟨g, k, ha, e, ⟨x, y⟩, z⟩
theorem lift_star (p : Prop) (A F : HP) : lift p A • F = lift p (A • F) := by
  funext h
  apply propext
  constructor
  · rintro ⟨g, k, ha, e, ⟨x, y⟩, z⟩; exact ⟨x, g, k, ha, e, y, z⟩
  · rintro ⟨x, g, k, ha, e, y, z⟩; exact ⟨g, k, ha, e, ⟨x, y⟩, z⟩

/-- In the world w, which is w0 below B, some blocks from B on are as A tells. -/
structure Sat (B : Nat) (w0 w : World) (A : HP) : Prop where
  below : Below B w0 w
  le : B ≤ w.heap.size
  part : ∃ h : Part, (∀ b o, h b = some o → B ≤ b ∧ w.heap[b]? = some o) ∧ A h

section
variable {B : Nat} {w0 w : World} {A F : HP}
theorem Sat.to {A' : HP} (h : Sat B w0 w A) (e : A = A') : Sat B w0 w A' := e ▸ h
theorem Sat.imp {A' : HP} (h : Sat B w0 w A) (i : ∀ p, A p → A' p) : Sat B w0 w A' :=
  let ⟨p, a, b⟩ := h.part; ⟨h.below, h.le, p, a, i p b⟩
theorem star_imp {A A' F F' : HP} (i : ∀ p, A p → A' p) (j : ∀ p, F p → F' p) : ∀ p, (A • F) p → (A' • F') p := by
  rintro p ⟨g, k, ha, e, x, y⟩; exact ⟨g, k, ha, e, i _ x, j _ y⟩
theorem Sat.imp_left {A' : HP} (h : Sat B w0 w (A • F)) (i : ∀ p, A p → A' p) : Sat B w0 w (A' • F) := h.imp (star_imp i fun _ x => x)
theorem Sat.ex {α : Type} {A : α → HP} (h : Sat B w0 w (hex A)) : ∃ x, Sat B w0 w (A x) :=
  let ⟨p, a, x, b⟩ := h.part; ⟨x, h.below, h.le, p, a, b⟩
theorem Sat.ex_mk {α : Type} {A : α → HP} (x : α) (h : Sat B w0 w (A x)) : Sat B w0 w (hex A) :=
  let ⟨p, a, b⟩ := h.part; ⟨h.below, h.le, p, a, x, b⟩
theorem Sat.lift {p : Prop} (h : Sat B w0 w (lift p A)) : p ∧ Sat B w0 w A :=
  let ⟨q, a, x, b⟩ := h.part; ⟨x, h.below, h.le, q, a, b⟩
theorem Sat.lift_mk {p : Prop} (x : p) (h : Sat B w0 w A) : Sat B w0 w (Ytepaanpdjadakaa.lift p A) :=
  let ⟨q, a, b⟩ := h.part; ⟨h.below, h.le, q, a, x, b⟩
theorem Sat.drop (h : Sat B w0 w (A • F)) : Sat B w0 w F := by
  obtain ⟨p, a, g, k, ha, e, x, y⟩ := h.part
  refine ⟨h.below, h.le, k, fun b o hb => a b o ?_, y⟩
  rw [e]
  unfold Part.join
  rcases ha b with e' | e'
  · rw [e']; exact hb
  · rw [e'] at hb; cases hb
theorem Sat.left (h : Sat B w0 w (A • F)) : Sat B w0 w A := (h.to (star_comm A F)).drop
theorem Sat.start (w : World) : Sat w.heap.size w w emp := ⟨Below.refl _ _, Nat.le_refl _, fun _ => none, by simp, trivial⟩
/-- What a block holds. -/
theorem Sat.heap {b : Nat} {o : Obj} (h : Sat B w0 w (blk b o • F)) : w.heap[b]? = some o := by
  obtain ⟨p, a, x⟩ := h.left.part
  exact (a b o x).2
theorem Sat.ge {b : Nat} {o : Obj} (h : Sat B w0 w (blk b o • F)) : B ≤ b := by
  obtain ⟨p, a, x⟩ := h.left.part
  exact (a b o x).1
theorem Sat.lt {b : Nat} {o : Obj} (h : Sat B w0 w (blk b o • F)) : b < w.heap.size := (Array.getElem?_eq_some_iff.1 h.heap).1
theorem Sat.ne {b c : Nat} {o o' : Obj} (h : Sat B w0 w (blk b o • blk c o' • F)) : b ≠ c := by
  obtain ⟨p, a, g, k, ha, e, x, g1, k1, ha1, e1, y, z⟩ := h.part
  rintro rfl
  have x' : g b = some o := x
  have y' : g1 b = some o' := y
  rcases ha b with h1 | h1
  · rw [h1] at x'; cases x'
  · rw [e1] at h1
    rw [(join_none.1 h1).1] at y'; cases y'
/-- Nothing that was there has turned. -/
theorem Sat.below_ {w' : World} (h : Sat B w0 w A) (k : Below w.heap.size w w') : Sat B w0 w' A := by
  obtain ⟨p, a, x⟩ := h.part
  refine ⟨h.below.trans (k.mono h.le), Nat.le_trans h.le k.size, p, fun b o hb => ?_, x⟩
  obtain ⟨h1, h2⟩ := a b o hb
  exact ⟨h1, (k.block b (Array.getElem?_eq_some_iff.1 h2).1).trans h2⟩
theorem Sat.drewN (h : Sat B w0 w A) (n : Nat) : Sat B w0 (w.drewN n) A := h.below_ ⟨rfl, rfl, rfl, Nat.le_refl _, fun _ _ => rfl⟩
theorem Sat.drew (h : Sat B w0 w A) : Sat B w0 w.drew A := h.below_ ⟨rfl, rfl, rfl, Nat.le_refl _, fun _ _ => rfl⟩
theorem Sat.alloc_ (h : Sat B w0 w A) (o : Obj) : Sat B w0 (w.alloc o) A := h.below_ ((Below.refl _ _).alloc (Nat.le_refl _) o)
/-- A block that was made is one's own. -/
theorem Sat.claim {w' : World} (h : Sat B w0 w A) (k : Below w.heap.size w w') {b : Nat} {o : Obj} (hb : w.heap.size ≤ b) (ho : w'.heap[b]? = some o) : Sat B w0 w' (blk b o • A) := by
  obtain ⟨p, a, x⟩ := h.part
  have h' := h.below_ k
  have hp : p b = none := by
    cases e : p b with
    | none => rfl
    | some o' =>
      have h2 := (Array.getElem?_eq_some_iff.1 (a b o' e).2).1
      omega
  refine ⟨h'.below, h'.le, Part.join (fun c => if c = b then some o else none) p, fun c o' hc => ?_, _, p, fun c => ?_, rfl, ?_, x⟩
  · unfold Part.join at hc
    by_cases e : c = b
    · subst e
      simp at hc
      subst hc
      exact ⟨Nat.le_trans h.le hb, ho⟩
    · simp [e] at hc
      obtain ⟨h1, h2⟩ := a c o' hc
      exact ⟨h1, (k.block c (Array.getElem?_eq_some_iff.1 h2).1).trans h2⟩
  · by_cases e : c = b
    · subst e; exact .inr hp
    · exact .inl (by simp [e])
  · simp [blk]
theorem Sat.alloc (h : Sat B w0 w A) (o : Obj) : Sat B w0 (w.alloc o) (blk w.heap.size o • A) :=
  h.claim ((Below.refl _ _).alloc (Nat.le_refl _) o) (Nat.le_refl _) (heap_alloc_new w o)
/-- One block is another one now. -/
theorem Sat.put {w' : World} {b : Nat} {o o' : Obj} (h : Sat B w0 w (blk b o • A)) (hg : w.grownBy w' (some b)) (ho : w'.heap[b]? = some o') : Sat B w0 w' (blk b o' • A) := by
  obtain ⟨p, a, g, k, ha, e, x, y⟩ := h.part
  have hk : ∀ c o'', k c = some o'' → c ≠ b ∧ B ≤ c ∧ w.heap[c]? = some o'' := by
    intro c o'' hc
    have hne : c ≠ b := by
      rintro rfl
      have x' : g c = some o := x
      rcases ha c with h1 | h1
      · rw [h1] at x'; cases x'
      · rw [h1] at hc; cases hc
    have : p c = some o'' := by
      rw [e]; unfold Part.join
      rcases ha c with h1 | h1
      · rw [h1]; exact hc
      · rw [h1] at hc; cases hc
    exact ⟨hne, a c o'' this⟩
  refine ⟨h.below.grown hg h.le (fun c hc => by cases hc; exact h.ge), Nat.le_trans h.le hg.size, Part.join (fun c => if c = b then some o' else none) k, fun c o'' hc => ?_, _, k, fun c => ?_, rfl, ?_, y⟩
  · unfold Part.join at hc
    by_cases e : c = b
    · subst e
      simp at hc
      subst hc
      exact ⟨h.ge, ho⟩
    · simp [e] at hc
      obtain ⟨_, h1, h2⟩ := hk c o'' hc
      exact ⟨h1, (hg.block c (Array.getElem?_eq_some_iff.1 h2).1 (fun e' => e (by cases e'; rfl))).trans h2⟩
  · by_cases e : c = b
    · subst e
      right
      cases e' : k c with
      | none => rfl
      | some o'' => exact absurd rfl (hk c o'' e').1
    · exact .inl (by simp [e])
  · simp [blk]
theorem grownBy_setCell (w : World) (b i : Nat) (s : Option Nat) (v : Value) : w.grownBy (w.setCell ⟨b, i, s⟩ v) (some b) :=
  ⟨rfl, rfl, rfl, by simp [World.setCell], fun k _ hne => Below.heap_setCell w _ v k (fun e => hne (by rw [e]))⟩
theorem heap_setCell_at (w : World) (b i : Nat) (v : Value) {c : Array Value} {t : TypeId} {fr : Nat × Nat} (h : w.heap[b]? = some (.cells c t fr)) :
    (w.setCell ⟨b, i, none⟩ v).heap[b]? = some (.cells (c.setIfInBounds i v) t fr) := by
  simp [World.setCell, Array.getElem?_modify, h]
theorem Sat.setCell {b i : Nat} {v : Value} {c : Array Value} {t : TypeId} {fr : Nat × Nat} (h : Sat B w0 w (blk b (.cells c t fr) • A)) :
    Sat B w0 (w.setCell ⟨b, i, none⟩ v) (blk b (.cells (c.setIfInBounds i v) t fr) • A) :=
  h.put (grownBy_setCell w b i none v) (heap_setCell_at w b i v h.heap)
theorem Sat.swap (h : Sat B w0 w (A • F)) : Sat B w0 w (F • A) := h.to (star_comm A F)
theorem Sat.pull2 {A1 A2 : HP} (h : Sat B w0 w (A1 • A2 • F)) : Sat B w0 w (A2 • A1 • F) := h.to (star_left_comm _ _ _)
theorem Sat.pull3 {A1 A2 A3 : HP} (h : Sat B w0 w (A1 • A2 • A3 • F)) : Sat B w0 w (A3 • A1 • A2 • F) :=
  h.to (by rw [star_left_comm A2 A3, star_left_comm A1 A3])
theorem Sat.pull4 {A1 A2 A3 A4 : HP} (h : Sat B w0 w (A1 • A2 • A3 • A4 • F)) : Sat B w0 w (A4 • A1 • A2 • A3 • F) :=
  h.to (by rw [star_left_comm A3 A4, star_left_comm A2 A4, star_left_comm A1 A4])
theorem Sat.emp_ (h : Sat B w0 w A) : Sat B w0 w emp := h.imp fun _ _ => trivial
theorem star_emp_imp (A : HP) : ∀ p, A p → (A • emp) p := by
  intro p h
  refine ⟨p, fun _ => none, fun _ => .inr rfl, ?_, h, trivial⟩
  funext b; unfold Part.join; cases p b <;> rfl
theorem Sat.add_emp (h : Sat B w0 w A) : Sat B w0 w (A • emp) := h.imp (star_emp_imp A)
end
end Go.Proofs.Ytepaanpdjadakaa
