import Derived.RowKit
import Derived.WalkKit
import Derived.Below
import Derived.Deep.Draws
import Derived.Orders
import Derived.Deep.Quiet
import Derived.Deep.QuietTactic
import Derived.BigQuiet
import Derived.Maps.AppendAt
import Derived.OwnWalk
import Derived.Laws.OwnMore
import Derived.Deep.MidRow
import Derived.Laws.StructEq
import Derived.Laws.ResultCell
import Derived.Laws.Tables
import Derived.MapKept

/-! Plain lists. -/
namespace Go.Proofs.YtepaanpdjadakaaGreatDoor

/-- The i-th; the walk does not look into it. -/
def nth (l : List Int) (i : Nat) : Int := l.getD i 0

theorem count_set_any {α : Type} [DecidableEq α] (l : List α) (i : Nat) (x y d : α) (h : i < l.length) :
    (l.set i x).count y + (if l.getD i d = y then 1 else 0) = l.count y + (if x = y then 1 else 0) := by
  induction l generalizing i with
  | nil => simp at h
  | cons a l ih =>
    cases i with
    | zero => simp [List.count_cons]; omega
    | succ i =>
      have := ih i (by simpa using h)
      simp [List.count_cons] at *
      omega
theorem getD_set {α : Type} (l : List α) (i k : Nat) (x d : α) (h : i < l.length) : (l.set i x).getD k d = if k = i then x else l.getD k d := by
  simp only [List.getD_eq_getElem?_getD, List.getElem?_set]
  by_cases e : i = k
  · subst e; simp [h]
  · simp [e, Ne.symm e]
theorem swap_perm_any {α : Type} [DecidableEq α] (l : List α) (i j : Nat) (d : α) (hi : i < l.length) (hj : j < l.length) : ((l.set i (l.getD j d)).set j (l.getD i d)).Perm l := by
  rw [List.perm_iff_count]
  intro y
  have h1 := count_set_any l i (l.getD j d) y d hi
  have h2 := count_set_any (l.set i (l.getD j d)) j (l.getD i d) y d (by simpa using hj)
  rw [getD_set _ _ _ _ _ hi] at h2
  by_cases e : j = i
  · subst e; simp only [if_true] at h2; omega
  · simp only [if_neg e] at h2; omega
theorem nth_eq {l : List Int} {i : Nat} (h : i < l.length) : l[i]? = some (nth l i) := by
  unfold nth; rw [List.getD_eq_getElem?_getD, List.getElem?_eq_getElem h]; rfl
end Go.Proofs.YtepaanpdjadakaaGreatDoor

namespace Go.Proofs.YtepaanpdjadakaaGreatDoor
open Go Go.RowKit

/-- A part of the heap. -/
abbrev Part := Nat → Option Obj
def Part.apart (g h : Part) : Prop := ∀ b, g b = none ∨ h b = none
def Part.join (g h : Part) : Part := fun b => match g b with | some o => some o | none => h b

/-- What holds of a part of the heap. -/
def HP := Part → Prop

def blk (b : Nat) (o : Obj) : HP := fun h => h b = some o
def emp : HP := fun _ => True
def star (A B : HP) : HP := fun h => ∃ g k, Part.apart g k ∧ h = Part.join g k ∧ A g ∧ B k
def hex {α : Type} (A : α → HP) : HP := fun h => ∃ x, A x h
def lift (p : Prop) (A : HP) : HP := fun h => p ∧ A h
instance : HSMul HP HP HP := ⟨star⟩

theorem join_comm {g k : Part} (h : Part.apart g k) : Part.join g k = Part.join k g := by
  funext b
  unfold Part.join
  rcases h b with e | e <;> rw [e]
  · cases k b <;> rfl
  · cases g b <;> rfl
theorem star_comm (A B : HP) : A • B = B • A := by
  funext h
  apply propext
  constructor
  · rintro ⟨g, k, ha, rfl, x, y⟩
    exact ⟨k, g, fun b => (ha b).symm, join_comm ha, y, x⟩
  · rintro ⟨g, k, ha, rfl, x, y⟩
    exact ⟨k, g, fun b => (ha b).symm, join_comm ha, y, x⟩
theorem join_none {g k : Part} {b : Nat} : Part.join g k b = none ↔ g b = none ∧ k b = none := by
  unfold Part.join
  cases g b <;> simp
theorem join_assoc (a b c : Part) : Part.join (Part.join a b) c = Part.join a (Part.join b c) := by
  funext x
  unfold Part.join
  cases a x <;> simp
theorem star_assoc (A B C : HP) : (A • B) • C = A • B • C := by
  funext h
  apply propext
  constructor
  · rintro ⟨g, k, ha, rfl, ⟨g1, g2, hb, rfl, x, y⟩, z⟩
    refine ⟨g1, Part.join g2 k, fun b => ?_, (join_assoc _ _ _), x, g2, k, fun b => ?_, rfl, y, z⟩
    · rcases ha b with e | e
      · exact .inl (join_none.1 e).1
      · rcases hb b with e' | e'
        · exact .inl e'
        · exact .inr (join_none.2 ⟨e', e⟩)
    · rcases ha b with e | e
      · exact .inl (join_none.1 e).2
      · exact .inr e
  · rintro ⟨g, k, ha, rfl, x, g1, g2, hb, rfl, y, z⟩
    refine ⟨Part.join g g1, g2, fun b => ?_, (join_assoc _ _ _).symm, ⟨g, g1, fun b => ?_, rfl, x, y⟩, z⟩
    · rcases hb b with e | e
      · rcases ha b with e' | e'
        · exact .inl (join_none.2 ⟨e', e⟩)
        · exact .inr (join_none.1 e').2
      · exact .inr e
    · rcases ha b with e | e
      · exact .inl e
      · exact .inr (join_none.1 e).1
instance : Std.Commutative (HSMul.hSMul : HP → HP → HP) := ⟨star_comm⟩
instance : Std.Associative (HSMul.hSMul : HP → HP → HP) := ⟨star_assoc⟩
theorem star_left_comm (A B C : HP) : A • B • C = B • A • C := by
  rw [← star_assoc, star_comm A B, star_assoc]
theorem hex_star {α : Type} (A : α → HP) (F : HP) : hex A • F = hex fun x => A x • F := by
  funext h
  apply propext
  constructor
  · rintro ⟨g, k, ha, e, ⟨x, y⟩, z⟩; exact ⟨x, g, k, ha, e, y, z⟩
  · rintro ⟨x, g, k, ha, e, y, z⟩; exact ⟨g, k, ha, e, ⟨x, y⟩, z⟩
theorem lift_star (p : Prop) (A F : HP) : lift p A • F = lift p (A • F) := by
  funext h
  apply propext
  constructor
  · rintro ⟨g, k, ha, e, ⟨x, y⟩, z⟩; exact ⟨x, g, k, ha, e, y, z⟩
  · rintro ⟨x, g, k, ha, e, y, z⟩; exact ⟨g, k, ha, e, ⟨x, y⟩, z⟩

/-- In the world w, which is w0 below B, some blocks from B on are as A tells. -/
structure Sat (B : Nat) (w0 w : World) (A : HP) : Prop where
  below : Below B w0 w
  le : B ≤ w.heap.size
  part : ∃ h : Part, (∀ b o, h b = some o → B ≤ b ∧ w.heap[b]? = some o) ∧ A h

section
variable {B : Nat} {w0 w : World} {A F : HP}
theorem Sat.to {A' : HP} (h : Sat B w0 w A) (e : A = A') : Sat B w0 w A' := e ▸ h
theorem Sat.imp {A' : HP} (h : Sat B w0 w A) (i : ∀ p, A p → A' p) : Sat B w0 w A' :=
  let ⟨p, a, b⟩ := h.part; ⟨h.below, h.le, p, a, i p b⟩
theorem star_imp {A A' F F' : HP} (i : ∀ p, A p → A' p) (j : ∀ p, F p → F' p) : ∀ p, (A • F) p → (A' • F') p := by
  rintro p ⟨g, k, ha, e, x, y⟩; exact ⟨g, k, ha, e, i _ x, j _ y⟩
theorem Sat.imp_left {A' : HP} (h : Sat B w0 w (A • F)) (i : ∀ p, A p → A' p) : Sat B w0 w (A' • F) := h.imp (star_imp i fun _ x => x)
theorem Sat.ex {α : Type} {A : α → HP} (h : Sat B w0 w (hex A)) : ∃ x, Sat B w0 w (A x) :=
  let ⟨p, a, x, b⟩ := h.part; ⟨x, h.below, h.le, p, a, b⟩
theorem Sat.ex_mk {α : Type} {A : α → HP} (x : α) (h : Sat B w0 w (A x)) : Sat B w0 w (hex A) :=
  let ⟨p, a, b⟩ := h.part; ⟨h.below, h.le, p, a, x, b⟩
theorem Sat.lift {p : Prop} (h : Sat B w0 w (lift p A)) : p ∧ Sat B w0 w A :=
  let ⟨q, a, x, b⟩ := h.part; ⟨x, h.below, h.le, q, a, b⟩
theorem Sat.lift_mk {p : Prop} (x : p) (h : Sat B w0 w A) : Sat B w0 w (YtepaanpdjadakaaGreatDoor.lift p A) :=
  let ⟨q, a, b⟩ := h.part; ⟨h.below, h.le, q, a, x, b⟩
theorem Sat.drop (h : Sat B w0 w (A • F)) : Sat B w0 w F := by
  obtain ⟨p, a, g, k, ha, e, x, y⟩ := h.part
  refine ⟨h.below, h.le, k, fun b o hb => a b o ?_, y⟩
  rw [e]
  unfold Part.join
  rcases ha b with e' | e'
  · rw [e']; exact hb
  · rw [e'] at hb; cases hb
theorem Sat.left (h : Sat B w0 w (A • F)) : Sat B w0 w A := (h.to (star_comm A F)).drop
theorem Sat.start (w : World) : Sat w.heap.size w w emp := ⟨Below.refl _ _, Nat.le_refl _, fun _ => none, by simp, trivial⟩
/-- What a block holds. -/
theorem Sat.heap {b : Nat} {o : Obj} (h : Sat B w0 w (blk b o • F)) : w.heap[b]? = some o := by
  obtain ⟨p, a, x⟩ := h.left.part
  exact (a b o x).2
theorem Sat.ge {b : Nat} {o : Obj} (h : Sat B w0 w (blk b o • F)) : B ≤ b := by
  obtain ⟨p, a, x⟩ := h.left.part
  exact (a b o x).1
theorem Sat.lt {b : Nat} {o : Obj} (h : Sat B w0 w (blk b o • F)) : b < w.heap.size := (Array.getElem?_eq_some_iff.1 h.heap).1
theorem Sat.ne {b c : Nat} {o o' : Obj} (h : Sat B w0 w (blk b o • blk c o' • F)) : b ≠ c := by
  obtain ⟨p, a, g, k, ha, e, x, g1, k1, ha1, e1, y, z⟩ := h.part
  rintro rfl
  have x' : g b = some o := x
  have y' : g1 b = some o' := y
  rcases ha b with h1 | h1
  · rw [h1] at x'; cases x'
  · rw [e1] at h1
    rw [(join_none.1 h1).1] at y'; cases y'
/-- Nothing that was there has turned. -/
theorem Sat.below_ {w' : World} (h : Sat B w0 w A) (k : Below w.heap.size w w') : Sat B w0 w' A := by
  obtain ⟨p, a, x⟩ := h.part
  refine ⟨h.below.trans (k.mono h.le), Nat.le_trans h.le k.size, p, fun b o hb => ?_, x⟩
  obtain ⟨h1, h2⟩ := a b o hb
  exact ⟨h1, (k.block b (Array.getElem?_eq_some_iff.1 h2).1).trans h2⟩
theorem Sat.drewN (h : Sat B w0 w A) (n : Nat) : Sat B w0 (w.drewN n) A := h.below_ ⟨rfl, rfl, rfl, Nat.le_refl _, fun _ _ => rfl⟩
theorem Sat.drew (h : Sat B w0 w A) : Sat B w0 w.drew A := h.below_ ⟨rfl, rfl, rfl, Nat.le_refl _, fun _ _ => rfl⟩
theorem Sat.alloc_ (h : Sat B w0 w A) (o : Obj) : Sat B w0 (w.alloc o) A := h.below_ ((Below.refl _ _).alloc (Nat.le_refl _) o)
/-- A block that was made is one's own. -/
theorem Sat.claim {w' : World} (h : Sat B w0 w A) (k : Below w.heap.size w w') {b : Nat} {o : Obj} (hb : w.heap.size ≤ b) (ho : w'.heap[b]? = some o) : Sat B w0 w' (blk b o • A) := by
  obtain ⟨p, a, x⟩ := h.part
  have h' := h.below_ k
  have hp : p b = none := by
    cases e : p b with
    | none => rfl
    | some o' =>
      have h2 := (Array.getElem?_eq_some_iff.1 (a b o' e).2).1
      omega
  refine ⟨h'.below, h'.le, Part.join (fun c => if c = b then some o else none) p, fun c o' hc => ?_, _, p, fun c => ?_, rfl, ?_, x⟩
  · unfold Part.join at hc
    by_cases e : c = b
    · subst e
      simp at hc
      subst hc
      exact ⟨Nat.le_trans h.le hb, ho⟩
    · simp [e] at hc
      obtain ⟨h1, h2⟩ := a c o' hc
      exact ⟨h1, (k.block c (Array.getElem?_eq_some_iff.1 h2).1).trans h2⟩
  · by_cases e : c = b
    · subst e; exact .inr hp
    · exact .inl (by simp [e])
  · simp [blk]
theorem Sat.alloc (h : Sat B w0 w A) (o : Obj) : Sat B w0 (w.alloc o) (blk w.heap.size o • A) :=
  h.claim ((Below.refl _ _).alloc (Nat.le_refl _) o) (Nat.le_refl _) (heap_alloc_new w o)
/-- One block is another one now. -/
theorem Sat.put {w' : World} {b : Nat} {o o' : Obj} (h : Sat B w0 w (blk b o • A)) (hg : w.grownBy w' (some b)) (ho : w'.heap[b]? = some o') : Sat B w0 w' (blk b o' • A) := by
  obtain ⟨p, a, g, k, ha, e, x, y⟩ := h.part
  have hk : ∀ c o'', k c = some o'' → c ≠ b ∧ B ≤ c ∧ w.heap[c]? = some o'' := by
    intro c o'' hc
    have hne : c ≠ b := by
      rintro rfl
      have x' : g c = some o := x
      rcases ha c with h1 | h1
      · rw [h1] at x'; cases x'
      · rw [h1] at hc; cases hc
    have : p c = some o'' := by
      rw [e]; unfold Part.join
      rcases ha c with h1 | h1
      · rw [h1]; exact hc
      · rw [h1] at hc; cases hc
    exact ⟨hne, a c o'' this⟩
  refine ⟨h.below.grown hg h.le (fun c hc => by cases hc; exact h.ge), Nat.le_trans h.le hg.size, Part.join (fun c => if c = b then some o' else none) k, fun c o'' hc => ?_, _, k, fun c => ?_, rfl, ?_, y⟩
  · unfold Part.join at hc
    by_cases e : c = b
    · subst e
      simp at hc
      subst hc
      exact ⟨h.ge, ho⟩
    · simp [e] at hc
      obtain ⟨_, h1, h2⟩ := hk c o'' hc
      exact ⟨h1, (hg.block c (Array.getElem?_eq_some_iff.1 h2).1 (fun e' => e (by cases e'; rfl))).trans h2⟩
  · by_cases e : c = b
    · subst e
      right
      cases e' : k c with
      | none => rfl
      | some o'' => exact absurd rfl (hk c o'' e').1
    · exact .inl (by simp [e])
  · simp [blk]
theorem grownBy_setCell (w : World) (b i : Nat) (s : Option Nat) (v : Value) : w.grownBy (w.setCell ⟨b, i, s⟩ v) (some b) :=
  ⟨rfl, rfl, rfl, by simp [World.setCell], fun k _ hne => Below.heap_setCell w _ v k (fun e => hne (by rw [e]))⟩
theorem heap_setCell_at (w : World) (b i : Nat) (v : Value) {c : Array Value} {t : TypeId} {fr : Nat × Nat} (h : w.heap[b]? = some (.cells c t fr)) :
    (w.setCell ⟨b, i, none⟩ v).heap[b]? = some (.cells (c.setIfInBounds i v) t fr) := by
  simp [World.setCell, Array.getElem?_modify, h]
theorem Sat.setCell {b i : Nat} {v : Value} {c : Array Value} {t : TypeId} {fr : Nat × Nat} (h : Sat B w0 w (blk b (.cells c t fr) • A)) :
    Sat B w0 (w.setCell ⟨b, i, none⟩ v) (blk b (.cells (c.setIfInBounds i v) t fr) • A) :=
  h.put (grownBy_setCell w b i none v) (heap_setCell_at w b i v h.heap)
theorem Sat.swap (h : Sat B w0 w (A • F)) : Sat B w0 w (F • A) := h.to (star_comm A F)
theorem Sat.pull2 {A1 A2 : HP} (h : Sat B w0 w (A1 • A2 • F)) : Sat B w0 w (A2 • A1 • F) := h.to (star_left_comm _ _ _)
theorem Sat.pull3 {A1 A2 A3 : HP} (h : Sat B w0 w (A1 • A2 • A3 • F)) : Sat B w0 w (A3 • A1 • A2 • F) :=
  h.to (by rw [star_left_comm A2 A3, star_left_comm A1 A3])
theorem Sat.pull4 {A1 A2 A3 A4 : HP} (h : Sat B w0 w (A1 • A2 • A3 • A4 • F)) : Sat B w0 w (A4 • A1 • A2 • A3 • F) :=
  h.to (by rw [star_left_comm A3 A4, star_left_comm A2 A4, star_left_comm A1 A4])
theorem Sat.emp_ (h : Sat B w0 w A) : Sat B w0 w emp := h.imp fun _ _ => trivial
theorem star_emp_imp (A : HP) : ∀ p, A p → (A • emp) p := by
  intro p h
  refine ⟨p, fun _ => none, fun _ => .inr rfl, ?_, h, trivial⟩
  funext b; unfold Part.join; cases p b <;> rfl
theorem Sat.add_emp (h : Sat B w0 w A) : Sat B w0 w (A • emp) := h.imp (star_emp_imp A)
end
end Go.Proofs.YtepaanpdjadakaaGreatDoor

namespace Go.Proofs.YtepaanpdjadakaaGreatDoor
open Go

/-- How an operation is taken: it only yields a value; or it acts; or it acts behind all that came ahead of it. -/
inductive How | pure | quiet | acts | seals
  deriving DecidableEq

section
variable {P : Program} {ops : Array Oper} {md : Region.Mode}

def NoQ : Exit → Act → World → Prop := fun _ _ _ => False

/-- In state a operation o yields v in every world of the class; none is changed. -/
def YC (P : Program) (ops : Array Oper) (C : World → Prop) (o : Oper) (v : Value) (a : Act) : Prop :=
  (Region.wanted o (yielded ops a.tmps) = true ∧ ∀ w, C w → (execOp a.eval o).run P w = .ok (.value v) w) ∨
  (Region.wanted o (yielded ops a.tmps) = false ∧ v = undef)

theorem YC.wpOp {C : World → Prop} {i : Nat} {o : Oper} {v : Value} {a : Act} {w : World} {Q : Exit → Act → World → Prop} (hi : ops[i]? = some o) (hy : YC P ops C o v a) (hC : C w)
    {K : Act → World → Prop} (h : K (a.put o.dst v) w) : wpOp P ops Q i K a w := by
  unfold Go.wpOp
  simp only [hi]
  rcases hy with ⟨hw, hv⟩ | ⟨hw, rfl⟩
  · simp only [hw, if_true, Oper.wp, hv w hC, Oper.upon]; exact .inl h
  · simp only [hw, Bool.false_eq_true, if_false]; exact h
theorem YC.of_same {C : World → Prop} {o : Oper} {v : Value} {a a' : Act} (hy : YC P ops C o v a) (he : execOp a'.eval o = execOp a.eval o)
    (hw : Region.wanted o (yielded ops a'.tmps) = Region.wanted o (yielded ops a.tmps)) : YC P ops C o v a' := by
  unfold YC at *
  rw [he, hw]
  exact hy

theorem wpOp_putC {C : World → Prop} {j : Nat} {oi oj : Oper} {v : Value} (hj : ops[j]? = some oj) (hap : oi.apart ops oj = true)
    (hsi : ∀ cs b, oi.op ≠ .select cs b) (hsj : ∀ cs b, oj.op ≠ .select cs b) {K : Act → World → Prop} {a : Act} {w : World}
    (hy : YC P ops C oi v a) (h : wpOp P ops NoQ j K (a.put oi.dst v) w) :
    wpOp P ops NoQ j (fun a' w' => YC P ops C oi v a' ∧ K (a'.put oi.dst v) w') a w := by
  obtain ⟨h1, h2, h3⟩ := Oper.apart_spec hap
  have keep : ∀ (a : Act), YC P ops C oi v a → ∀ u, YC P ops C oi v (a.put oj.dst u) := fun a hy u =>
    hy.of_same (execOp_put oi hsi a oj.dst u h3) (wanted_put oi a oj.dst u h3)
  have keepD : ∀ d, YC P ops C oi v { a with defers := d :: a.defers } := fun d => hy.of_same rfl rfl
  unfold wpOp at *
  simp only [hj] at *
  rw [wanted_put oj a oi.dst v h1] at h
  split
  · rename_i hw
    simp only [hw, if_true] at h
    rcases h with h | ⟨_, _, _, hlets⟩
    case inr => exact hlets.elim
    refine .inl ?_
    unfold Oper.wp at *
    rw [execOp_put oj hsj a oi.dst v h1] at h
    generalize (execOp a.eval oj).run P w = r at *
    cases r with
    | ok n w' =>
      cases n <;> simp only [Oper.upon] at h ⊢
      case value u => exact ⟨keep a hy u, by rw [← Act.put_comm a v u h2]; exact h⟩
      case skip => exact ⟨keep a hy _, by rw [← Act.put_comm a v undef h2]; exact h⟩
      case defer d =>
        refine ⟨keep _ (keepD d) _, ?_⟩
        rw [← Act.put_comm _ v undef h2, ← Act.put_defers]
        exact h
      case enter f args =>
        refine Calls.mono h fun e w'' he => ?_
        cases e with
        | returned u => exact ⟨keep a hy u, by rw [← Act.put_comm a v u h2]; exact he⟩
        | panicked c => exact he
        | outgrown => exact he
      case row row args => exact Rows.mono h fun u w'' he => ⟨keep a hy u, by rw [← Act.put_comm a v u h2]; exact he⟩
    | halt x w' =>
      cases x <;> simp only [Oper.upon] at h ⊢
      case panic u => exact h
  · rename_i hw
    simp only [hw] at h
    exact ⟨keep a hy _, by rw [← Act.put_comm a v undef h2]; exact h⟩

/-- All that binds what is listed is listed. -/
def Closed (md : Region.Mode) (ops : Array Oper) (listed : Array Bool) : Prop :=
  ∀ k o, ops[k]? = some o → listed.getD k false = true → ∀ e ∈ o.after, Region.binds md e = true → listed.getD e.on false = true
/-- Operation i stands ahead of operation j in every order. -/
def Ahead (md : Region.Mode) (ops : Array Oper) (i j : Nat) : Prop := ∀ listed, Closed md ops listed → j ∈ Region.ready md ops listed → listed.getD i false = true

/-- What the one lists the other lists. -/
def Sub (l0 l1 : Array Bool) : Prop := ∀ k, l0.getD k false = true → l1.getD k false = true

theorem closed_set {listed : Array Bool} {i : Nat} (h : Closed md ops listed) (hi : i ∈ Region.ready md ops listed) : Closed md ops (listed.setIfInBounds i true) := by
  intro k o hk hl e he hb
  by_cases hki : i = k
  · subst hki
    obtain ⟨_, o', ho', hall⟩ := mem_ready.1 hi
    rw [hk] at ho'; cases ho'
    exact getD_set_true (hall e he hb)
  · rw [getD_set_ne false hki] at hl
    exact getD_set_true (h k o hk hl e he hb)

/-- Whatever order is picked from here on, the class kept till an operation that seals. -/
def wpAnyC (P : Program) (md : Region.Mode) (ops : Array Oper) (K : Act → World → Prop) (fl : Nat → Bool) : Nat → (World → Prop) → Array Bool → Act → World → Prop
  | 0, C, listed, a, w => C w ∧ Region.ready md ops listed = [] ∧ K a w
  | fuel + 1, C, listed, a, w => C w ∧ (Region.ready md ops listed = [] → K a w) ∧
    ∀ i ∈ Region.ready md ops listed, wpOp P ops NoQ i (fun a' w' => ∃ C', (fl i = false → C' = C) ∧ wpAnyC P md ops K fl fuel C' (listed.setIfInBounds i true) a' w') a w

theorem wpAnyC_class {K : Act → World → Prop} {fl : Nat → Bool} {fuel : Nat} {C : World → Prop} {listed : Array Bool} {a : Act} {w : World} (h : wpAnyC P md ops K fl fuel C listed a w) : C w := by
  cases fuel with
  | zero => exact h.1
  | succ f => exact h.1

theorem wpOp_monoQ {i : Nat} {a : Act} {w : World} {K K' : Act → World → Prop} {Q : Exit → Act → World → Prop} (h : ∀ a w, K a w → K' a w) (hh : wpOp P ops NoQ i K a w) : wpOp P ops Q i K' a w := by
  have h1 := wpOp_mono h hh
  clear hh h
  unfold wpOp at *
  split
  · simpa [*] using h1
  · rename_i o ho
    simp only [ho] at h1
    split
    · rename_i hw
      simp only [hw, if_true] at h1
      rcases h1 with h1 | ⟨_, _, _, hlets⟩
      · left
        unfold Oper.wp at *
        generalize (execOp a.eval o).run P w = r at *
        cases r with
        | ok n w' =>
          cases n <;> simp only [Oper.upon] at h1 ⊢ <;> first | exact h1 | exact Calls.mono h1 (fun e w'' he => by cases e with
            | returned u => exact he
            | panicked c => exact he.elim
            | outgrown => obtain ⟨_, _, h⟩ := he; exact h.elim)
        | halt x w' => cases x <;> simp only [Oper.upon] at h1 ⊢ <;> exact h1.elim
      · exact hlets.elim
    · rename_i hw; simp only [hw] at h1; exact h1

theorem wpAny_of_wpAnyC {K : Act → World → Prop} {Q : Exit → Act → World → Prop} {fl : Nat → Bool} (hQ : ∀ a w, K a w → Q .normal a w) : ∀ (fuel : Nat) (C : World → Prop) (listed : Array Bool) (a : Act) (w : World),
    wpAnyC P md ops K fl fuel C listed a w → wpAny P md ops Q fuel listed a w
  | 0, _, _, _, _, h => ⟨h.2.1, hQ _ _ h.2.2⟩
  | fuel + 1, _, _, _, _, h => ⟨fun h0 => hQ _ _ (h.2.1 h0), fun i hi => wpOp_monoQ (fun a' w' ⟨C', _, h'⟩ => wpAny_of_wpAnyC hQ fuel C' _ a' w' h') (h.2.2 i hi)⟩

theorem wpAnyC_first {K : Act → World → Prop} {fl : Nat → Bool} {C : World → Prop} {i : Nat} {oi : Oper} {v : Value} (hi : ops[i]? = some oi) (hsel : ∀ (j : Nat) (o : Oper) cs b, ops[j]? = some o → o.op ≠ .select cs b)
    (hfl : fl i = false) (l0 : Array Bool) (hah : ∀ (listed : Array Bool) j, fl j = true → listed.getD i true = false → Sub l0 listed → Closed md ops listed → j ∉ Region.ready md ops listed) :
    ∀ (fuel : Nat) (listed : Array Bool) (a : Act) (w : World), Closed md ops listed → Sub l0 listed →
      (∀ j oj, ops[j]? = some oj → j ≠ i → listed.getD j true = false → (∀ e ∈ oj.after, Region.binds md e = true → e.on ≠ i) → oi.apart ops oj = true) →
      i ∈ Region.ready md ops listed → YC P ops C oi v a →
      wpAnyC P md ops K fl fuel C (listed.setIfInBounds i true) (a.put oi.dst v) w → wpAnyC P md ops K fl (fuel + 1) C listed a w := by
  intro fuel
  induction fuel with
  | zero =>
    intro listed a w _ _ _ hr hy H
    refine ⟨H.1, fun h => (by rw [h] at hr; cases hr), fun j hj => ?_⟩
    by_cases hji : j = i
    · subst hji; exact hy.wpOp hi H.1 ⟨C, fun _ => rfl, H⟩
    · have := ready_mono hj hji
      rw [H.2.1] at this
      cases this
  | succ fuel ih =>
    intro listed a w hcl hsub hfree hr hy H
    refine ⟨H.1, fun h => (by rw [h] at hr; cases hr), fun j hj => ?_⟩
    by_cases hji : j = i
    · subst hji; exact hy.wpOp hi H.1 ⟨C, fun _ => rfl, H⟩
    · have h1 := H.2.2 j (ready_mono hj hji)
      obtain ⟨hjun, oj, hoj, hall⟩ := mem_ready.1 hj
      have hiun := (mem_ready.1 hr).1
      have hnot : ∀ e ∈ oj.after, Region.binds md e = true → e.on ≠ i := fun e he hb heq => by
        have h1 := hall e he hb
        have h0 := (mem_ready.1 hr).1
        rw [heq] at h1
        rcases Nat.lt_or_ge i listed.size with h' | h'
        · simp [h'] at h0 h1; rw [h0] at h1; cases h1
        · simp [Array.getElem?_eq_none h'] at h1
      have hflj : fl j = false := by
        cases e : fl j with
        | false => rfl
        | true => exact absurd hj (hah listed j e hiun hsub hcl)
      have h2 := wpOp_putC hoj (hfree j oj hoj hji hjun hnot) (fun cs b => hsel i oi cs b hi) (fun cs b => hsel j oj cs b hoj) hy h1
      have hfree' : ∀ k ok, ops[k]? = some ok → k ≠ i → (listed.setIfInBounds j true).getD k true = false →
          (∀ e ∈ ok.after, Region.binds md e = true → e.on ≠ i) → oi.apart ops ok = true := fun k ok hk hki hun hno => by
        refine hfree k ok hk hki ?_ hno
        by_cases hjk : j = k
        · subst hjk; exact hjun
        · rw [getD_set_ne true hjk] at hun; exact hun
      refine wpOp_mono (fun a' w' h3 => ?_) h2
      obtain ⟨hy', C', hC', h4⟩ := h3
      obtain rfl := hC' hflj
      refine ⟨C', fun _ => rfl, ih (listed.setIfInBounds j true) a' w' (closed_set hcl hj) (fun k hk => getD_set_true (hsub k hk)) hfree' (ready_mono hr (Ne.symm hji)) hy' ?_⟩
      rw [Array.setIfInBounds_comm _ _ hji]
      exact h4


/-- The same of an operation that yields its value in whatever world. -/
theorem wpAnyC_firstP {K : Act → World → Prop} {fl : Nat → Bool} {i : Nat} {oi : Oper} {v : Value} (hi : ops[i]? = some oi) (hsel : ∀ (j : Nat) (o : Oper) cs b, ops[j]? = some o → o.op ≠ .select cs b)
    (hfl : fl i = false) :
    ∀ (fuel : Nat) (C : World → Prop) (listed : Array Bool) (a : Act) (w : World),
      (∀ j oj, ops[j]? = some oj → j ≠ i → listed.getD j true = false → (∀ e ∈ oj.after, Region.binds md e = true → e.on ≠ i) → oi.apart ops oj = true) →
      i ∈ Region.ready md ops listed → YC P ops (fun _ => True) oi v a →
      wpAnyC P md ops K fl fuel C (listed.setIfInBounds i true) (a.put oi.dst v) w → wpAnyC P md ops K fl (fuel + 1) C listed a w := by
  intro fuel
  induction fuel with
  | zero =>
    intro C listed a w _ hr hy H
    refine ⟨H.1, fun h => (by rw [h] at hr; cases hr), fun j hj => ?_⟩
    by_cases hji : j = i
    · subst hji; exact hy.wpOp hi trivial ⟨C, fun _ => rfl, H⟩
    · have := ready_mono hj hji
      rw [H.2.1] at this
      cases this
  | succ fuel ih =>
    intro C listed a w hfree hr hy H
    refine ⟨H.1, fun h => (by rw [h] at hr; cases hr), fun j hj => ?_⟩
    by_cases hji : j = i
    · subst hji; exact hy.wpOp hi trivial ⟨C, fun _ => rfl, H⟩
    · have h1 := H.2.2 j (ready_mono hj hji)
      obtain ⟨hjun, oj, hoj, hall⟩ := mem_ready.1 hj
      have hnot : ∀ e ∈ oj.after, Region.binds md e = true → e.on ≠ i := fun e he hb heq => by
        have h1 := hall e he hb
        have h0 := (mem_ready.1 hr).1
        rw [heq] at h1
        rcases Nat.lt_or_ge i listed.size with h' | h'
        · simp [h'] at h0 h1; rw [h0] at h1; cases h1
        · simp [Array.getElem?_eq_none h'] at h1
      have h2 := wpOp_putC hoj (hfree j oj hoj hji hjun hnot) (fun cs b => hsel i oi cs b hi) (fun cs b => hsel j oj cs b hoj) hy h1
      have hfree' : ∀ k ok, ops[k]? = some ok → k ≠ i → (listed.setIfInBounds j true).getD k true = false →
          (∀ e ∈ ok.after, Region.binds md e = true → e.on ≠ i) → oi.apart ops ok = true := fun k ok hk hki hun hno => by
        refine hfree k ok hk hki ?_ hno
        by_cases hjk : j = k
        · subst hjk; exact hjun
        · rw [getD_set_ne true hjk] at hun; exact hun
      refine wpOp_mono (fun a' w' h3 => ?_) h2
      obtain ⟨hy', C', hC', h4⟩ := h3
      refine ⟨C', hC', ih C' (listed.setIfInBounds j true) a' w' hfree' (ready_mono hr (Ne.symm hji)) hy' ?_⟩
      rw [Array.setIfInBounds_comm _ _ hji]
      exact h4

/-! The order by which it is walked, and what is asked of it -/
/-- Each operation that is in the way of j, as far as n steps tell. -/
def heads (md : Region.Mode) (ops : Array Oper) : Nat → List Nat → List Nat
  | 0, l => l
  | n + 1, l => heads md ops n ((l ++ l.flatMap fun j => match ops[j]? with | some o => (o.after.toList.filter (Region.binds md)).map (·.on) | none => []).eraseDups)

theorem heads_listed {listed : Array Bool} (hc : Closed md ops listed) : ∀ (n : Nat) (l : List Nat), (∀ j ∈ l, listed.getD j false = true) → ∀ j ∈ heads md ops n l, listed.getD j false = true := by
  intro n
  induction n with
  | zero => intro l h; exact h
  | succ n ih =>
    intro l h
    refine ih _ fun j hj => ?_
    rw [List.mem_eraseDups, List.mem_append, List.mem_flatMap] at hj
    rcases hj with hj | ⟨k, hk, hj⟩
    · exact h j hj
    · cases ho : ops[k]? with
      | none => rw [ho] at hj; cases hj
      | some o =>
        rw [ho] at hj
        simp only [List.mem_map, List.mem_filter] at hj
        obtain ⟨e, ⟨he, hb⟩, rfl⟩ := hj
        exact hc k o ho (h k hk) e (by simpa using he) hb

def preds (md : Region.Mode) (ops : Array Oper) (j : Nat) : List Nat := match ops[j]? with | some o => (o.after.toList.filter (Region.binds md)).map (·.on) | none => []
def aheadB (md : Region.Mode) (ops : Array Oper) (i j : Nat) : Bool := (heads md ops ops.size (preds md ops j)).contains i
theorem ahead_of {i j : Nat} (h : aheadB md ops i j = true) (listed : Array Bool) (hc : Closed md ops listed) (hj : j ∈ Region.ready md ops listed) : listed.getD i false = true := by
  obtain ⟨_, o, ho, hall⟩ := mem_ready.1 hj
  refine heads_listed hc _ (preds md ops j) (fun k hk => ?_) i (by simpa [aheadB] using h)
  simp only [preds, ho, List.mem_map, List.mem_filter] at hk
  obtain ⟨e, ⟨he, hb⟩, rfl⟩ := hk
  exact hall e (by simpa using he) hb

def flags (ord : List (Nat × How)) (j : Nat) : Bool := ord.any fun p => p.1 == j && p.2 == .seals

def checkFrom (md : Region.Mode) (ops : Array Oper) (seals : List Nat) : List (Nat × How) → Array Bool → Bool
  | [], listed => (Region.ready md ops listed).isEmpty
  | (i, k) :: rest, listed =>
    (match k with
     | .pure => (Region.ready md ops listed).contains i && Region.free md ops listed i && !seals.contains i
     | .quiet => (Region.ready md ops listed).contains i && Region.free md ops listed i && !seals.contains i && seals.all fun j => listed.getD j false || aheadB md ops i j
     | .acts => (Region.ready md ops listed == [i]) && !seals.contains i
     | .seals => (Region.ready md ops listed == [i]) && seals.contains i) &&
    checkFrom md ops seals rest (listed.setIfInBounds i true)
def sealsOf (ord : List (Nat × How)) : List Nat := (ord.filter fun p => p.2 == .seals).map (·.1)
def check (ops : Array Oper) (ord : List (Nat × How)) : Bool :=
  Region.noSelect ops && ord.length == ops.size && checkFrom .any ops (sealsOf ord) ord (Array.replicate ops.size false)

/-- The walk, in that order. -/
def wpOrd (P : Program) (ops : Array Oper) (K : Act → World → Prop) : (World → Prop) → List (Nat × How) → Act → World → Prop
  | _, [], a, w => K a w
  | C, (i, k) :: rest, a, w =>
    match ops[i]? with
    | none => False
    | some o =>
      if Region.wanted o (yielded ops a.tmps) then
        match k with
        | .pure => ∃ v, (∀ w', (execOp a.eval o).run P w' = .ok (.value v) w') ∧ wpOrd P ops K C rest (a.put o.dst v) w
        | .quiet => ∃ v, (∀ w', C w' → (execOp a.eval o).run P w' = .ok (.value v) w') ∧ wpOrd P ops K C rest (a.put o.dst v) w
        | .acts => o.wp P a w (fun a' w' => C w' ∧ wpOrd P ops K C rest a' w') NoQ
        | .seals => o.wp P a w (fun a' w' => ∃ C' : World → Prop, C' w' ∧ wpOrd P ops K C' rest a' w') NoQ
      else wpOrd P ops K C rest (a.put o.dst undef) w

theorem wpAnyC_ord {K : Act → World → Prop} {seals : List Nat} (hsel : Region.noSelect ops = true) : ∀ (ord : List (Nat × How)) (C : World → Prop) (listed : Array Bool) (a : Act) (w : World),
    Closed md ops listed → checkFrom md ops seals ord listed = true → C w → wpOrd P ops K C ord a w → wpAnyC P md ops K (seals.contains ·) ord.length C listed a w := by
  intro ord
  induction ord with
  | nil =>
    intro C listed a w hcl hch hC h
    exact ⟨hC, by simpa [checkFrom] using hch, h⟩
  | cons p rest ih =>
    intro C listed a w hcl hch hC h
    obtain ⟨i, k⟩ := p
    simp only [checkFrom, Bool.and_eq_true] at hch
    obtain ⟨hk, hrest⟩ := hch
    have hready : i ∈ Region.ready md ops listed := by
      cases k <;> simp only [Bool.and_eq_true, beq_iff_eq] at hk
      · simpa using hk.1.1
      · simpa using hk.1.1.1
      · rw [hk.1]; simp
      · rw [hk.1]; simp
    obtain ⟨_, o, ho, _⟩ := mem_ready.1 hready
    simp only [wpOrd, ho] at h
    have hfirst : ∀ v, YC P ops C o v a → k = .quiet → wpOrd P ops K C rest (a.put o.dst v) w → wpAnyC P md ops K (seals.contains ·) (rest.length + 1) C listed a w := by
      intro v hy hq h'
      subst hq
      simp only [Bool.and_eq_true, Bool.not_eq_true', List.all_eq_true, Bool.or_eq_true] at hk
      refine wpAnyC_first ho (Region.noSelect_spec hsel) hk.1.2 listed (fun l2 j hj hun hs hc hjr => ?_) rest.length listed a w hcl (fun _ h => h) (Region.free_spec ho hk.1.1.2) hready hy (ih C _ _ w (closed_set hcl hready) hrest hC h')
      have hu2 : l2.getD i false = false := by
        rcases Nat.lt_or_ge i l2.size with h3 | h3
        · simp [h3] at hun ⊢; exact hun
        · simp [Array.getElem?_eq_none h3] at hun
      rcases hk.2 j (by simpa using hj) with h1 | h1
      · have h2 := hs j h1
        have h3 := (mem_ready.1 hjr).1
        rcases Nat.lt_or_ge j l2.size with h4 | h4
        · simp [h4] at h2 h3; rw [h2] at h3; cases h3
        · simp [Array.getElem?_eq_none h4] at h2
      · rw [ahead_of h1 l2 hc hjr] at hu2; cases hu2
    have hfirstP : ∀ v, YC P ops (fun _ => True) o v a → k = .pure → wpOrd P ops K C rest (a.put o.dst v) w → wpAnyC P md ops K (seals.contains ·) (rest.length + 1) C listed a w := by
      intro v hy hq h'
      subst hq
      simp only [Bool.and_eq_true, Bool.not_eq_true'] at hk
      exact wpAnyC_firstP ho (Region.noSelect_spec hsel) hk.2 rest.length C listed a w (Region.free_spec ho hk.1.2) hready hy (ih C _ _ w (closed_set hcl hready) hrest hC h')
    by_cases hw : Region.wanted o (yielded ops a.tmps) = true
    · simp only [hw, if_true] at h
      cases k with
      | pure =>
        obtain ⟨v, hv, h'⟩ := h
        exact hfirstP v (.inl ⟨hw, fun w' _ => hv w'⟩) rfl h'
      | quiet =>
        obtain ⟨v, hv, h'⟩ := h
        exact hfirst v (.inl ⟨hw, hv⟩) rfl h'
      | acts =>
        simp only [Bool.and_eq_true, beq_iff_eq, Bool.not_eq_true'] at hk
        refine ⟨hC, fun h0 => absurd (h0 ▸ hk.1) (by simp), fun j hj => ?_⟩
        rw [hk.1] at hj
        obtain rfl : j = i := by simpa using hj
        unfold wpOp
        simp only [ho, hw, if_true]
        exact .inl (Oper.wp_mono (fun a' w' ⟨h1, h2⟩ => ⟨C, fun _ => rfl, ih C _ a' w' (closed_set hcl hready) hrest h1 h2⟩) h)
      | seals =>
        simp only [Bool.and_eq_true, beq_iff_eq] at hk
        refine ⟨hC, fun h0 => absurd (h0 ▸ hk.1) (by simp), fun j hj => ?_⟩
        rw [hk.1] at hj
        obtain rfl : j = i := by simpa using hj
        unfold wpOp
        simp only [ho, hw, if_true]
        exact .inl (Oper.wp_mono (fun a' w' ⟨C', h1, h2⟩ => ⟨C', fun e => (by rw [hk.2] at e; cases e), ih C' _ a' w' (closed_set hcl hready) hrest h1 h2⟩) h)
    · simp only [hw] at h
      have hw' : Region.wanted o (yielded ops a.tmps) = false := by simpa using hw
      have hone : Region.ready md ops listed = [i] → wpAnyC P md ops K (seals.contains ·) (rest.length + 1) C listed a w := by
        intro hr1
        refine ⟨hC, fun h0 => absurd (h0 ▸ hr1) (by simp), fun j hj => ?_⟩
        rw [hr1] at hj
        obtain rfl : j = i := by simpa using hj
        unfold wpOp
        simp only [ho, hw']
        exact ⟨C, fun _ => rfl, ih C _ _ w (closed_set hcl hready) hrest hC h⟩
      cases k with
      | pure => exact hfirstP undef (.inr ⟨hw', rfl⟩) rfl h
      | quiet => exact hfirst undef (.inr ⟨hw', rfl⟩) rfl h
      | acts => simp only [Bool.and_eq_true, beq_iff_eq] at hk; exact hone hk.1
      | seals => simp only [Bool.and_eq_true, beq_iff_eq] at hk; exact hone hk.1

theorem closed_none (n : Nat) : Closed md ops (Array.replicate n false) := by
  intro k o _ hl
  simp only [Array.getD_eq_getD_getElem?, Array.getElem?_replicate] at hl
  split at hl <;> simp at hl

/-- A REGION THAT DRAWS ITS ORDER, walked in one order of one's own. -/
theorem wp_region_ord {id : Nat} {Q : Exit → Act → World → Prop} {a : Act} {w : World} {l : List Oper} (ord : List (Nat × How)) (hm : P.follows .mixedOrders = true) (hB : check l.toArray ord = true)
    (C : World → Prop) (hC : C w.drew) (h : wpOrd P l.toArray (Q .normal) C ord a w.drew) : (Code.region id l.toArray true).wp P Q a w := by
  simp only [check, Bool.and_eq_true, beq_iff_eq] at hB
  obtain ⟨⟨h1, h2⟩, h3⟩ := hB
  refine wp_region_any hm (wpAny_of_wpAnyC (K := Q .normal) (fl := fun i => (sealsOf ord).contains i) (fun _ _ h => h) _ C _ _ _ ?_)
  rw [← h2] at h3 ⊢
  exact wpAnyC_ord h1 ord C _ a w.drew (closed_none _) h3 hC h
end

/-! Steps -/
/-- An operation that enters no function. -/
def stays : Op → Bool
  | .call c => match c.callee with | .builtin .len | .builtin .cap | .builtin .min | .builtin .max => true | _ => false
  | .move _ | .assign _ | .pick .. | .load .. | .binOp .. | .unOp .. | .convert .. | .makeInterface .. | .fieldAddr .. | .field .. | .indexAddr .. | .index .. | .extract .. | .nilCheck _ | .typeAssert .. | .slice .. | .lookup .. | .build .. => true
  | _ => false

def NoEnter (s : Sem Next) : Prop := ∀ (P : Program) (w w' : World) (n : Next), s.run P w = .ok n w' → ∃ v, n = .value v
theorem ne_value (v : Value) : NoEnter (pure (.value v)) := fun P w w' n h => by
  have h' : (Result.ok (Next.value v) w : Result Next) = .ok n w' := h
  injection h' with h'
  exact ⟨v, h'.symm⟩
theorem ne_halt (x : Halt) : NoEnter (.halt x) := fun P w w' n h => by
  have h' : (Result.halt x w : Result Next) = .ok n w' := h
  cases h'
theorem ne_bind {α : Type} (s : Sem α) (k : α → Sem Next) (h : ∀ x, NoEnter (k x)) : NoEnter (s >>= k) := fun P w w' n => by
  rw [Sem.run_bind]
  cases s.run P w with
  | ok v w1 => exact h v P w1 w' n
  | halt x w1 => intro h'; cases h'
theorem ne_v (s : Sem Value) : NoEnter (do pure (Next.value (← s))) := ne_bind s _ fun _ => ne_value _
theorem ne_nil : NoEnter (runtimePanic .nilDeref) := ne_bind _ _ fun _ => ne_halt _

theorem stays_enter {o : Oper} {ρ : Operand → Value} (h : stays o.op = true) : NoEnter (execOp ρ o) := by
  obtain ⟨dst, op, type, pos, after, guard⟩ := o
  cases op <;> simp only [stays] at h <;> try (exact absurd h (by decide))
  all_goals simp only [execOp]
  case call c =>
    obtain ⟨callee, as, tys⟩ := c
    cases callee with
    | value f => simp at h
    | invoke r m => simp at h
    | builtin b =>
      cases b <;> simp at h <;> (simp only [resolve, invoke, builtin]; exact ne_v _)
  case nilCheck x =>
    split
    · exact ne_nil
    · exact ne_nil
    · exact ne_nil
    · split
      · exact ne_nil
      · refine ne_bind _ _ fun _ => ne_bind _ _ fun _ => ?_
        split
        · exact ne_bind _ _ fun _ => ne_value _
        · exact ne_value _
      · exact ne_value _
    · exact ne_value _
  all_goals first | exact ne_v _ | exact ne_value _ | exact ne_bind _ _ fun _ => ne_value _

section
variable {P : Program} {K : Act → World → Prop} {C : World → Prop} {a : Act} {w : World} {i : Nat} {rest : List (Nat × How)} {o : Oper}

theorem quiet_value {D : World → Prop} {K' : Act → Prop} (hs : stays o.op = true) (h : o.quiet P a D K') : ∃ v, (∀ w', D w' → (execOp a.eval o).run P w' = .ok (.value v) w') ∧ K' (a.put o.dst v) := by
  obtain ⟨v, h1, h2⟩ := h
  refine ⟨v, fun w' hw => ?_, h2⟩
  have h3 := h1 w' hw
  unfold Oper.quietAt at h3
  have hne := stays_enter (ρ := a.eval) hs P w'
  generalize hr : (execOp a.eval o).run P w' = r at *
  cases r with
  | ok n w1 =>
    obtain ⟨u, rfl⟩ := hne w1 n rfl
    simp only [Oper.quietUpon] at h3
    obtain ⟨rfl, rfl⟩ := h3
    rfl
  | halt x w1 => simp only [Oper.quietUpon] at h3

variable {l : List Oper}
theorem ord_nil (h : K a w) : wpOrd P l.toArray K C [] a w := h
theorem ord_pure (hi : l[i]? = some o) (hw : Region.wanted o (yielded l.toArray a.tmps) = true) (hs : stays o.op = true)
    (h : ∀ K' : Act → Prop, (∀ a, wpOrd P l.toArray K C rest a w → K' a) → o.quiet P a (fun _ => True) K') : wpOrd P l.toArray K C ((i, .pure) :: rest) a w := by
  have hi' : l.toArray[i]? = some o := by simpa using hi
  simp only [wpOrd, hi', hw, if_true]
  obtain ⟨v, h1, h2⟩ := quiet_value hs (h _ fun _ h => h)
  exact ⟨v, fun w' => h1 w' trivial, h2⟩
theorem ord_quiet (hi : l[i]? = some o) (hw : Region.wanted o (yielded l.toArray a.tmps) = true) (hs : stays o.op = true)
    (h : ∀ K' : Act → Prop, (∀ a, wpOrd P l.toArray K C rest a w → K' a) → o.quiet P a C K') : wpOrd P l.toArray K C ((i, .quiet) :: rest) a w := by
  have hi' : l.toArray[i]? = some o := by simpa using hi
  simp only [wpOrd, hi', hw, if_true]
  exact quiet_value hs (h _ fun _ h => h)
theorem ord_skip {k : How} (hi : l[i]? = some o) (hw : Region.wanted o (yielded l.toArray a.tmps) = false) (h : wpOrd P l.toArray K C rest (a.put o.dst undef) w) : wpOrd P l.toArray K C ((i, k) :: rest) a w := by
  have hi' : l.toArray[i]? = some o := by simpa using hi
  simp only [wpOrd, hi', hw]
  exact h
theorem ord_acts (hi : l[i]? = some o) (hw : Region.wanted o (yielded l.toArray a.tmps) = true)
    (h : ∀ K' : Act → World → Prop, (∀ a w, C w → wpOrd P l.toArray K C rest a w → K' a w) → o.wp P a w K' NoQ) : wpOrd P l.toArray K C ((i, .acts) :: rest) a w := by
  have hi' : l.toArray[i]? = some o := by simpa using hi
  simp only [wpOrd, hi', hw, if_true]
  exact h _ fun _ _ h1 h2 => ⟨h1, h2⟩
theorem ord_seals (hi : l[i]? = some o) (hw : Region.wanted o (yielded l.toArray a.tmps) = true)
    (h : ∀ K' : Act → World → Prop, (∀ (C' : World → Prop) a w, C' w → wpOrd P l.toArray K C' rest a w → K' a w) → o.wp P a w K' NoQ) : wpOrd P l.toArray K C ((i, .seals) :: rest) a w := by
  have hi' : l.toArray[i]? = some o := by simpa using hi
  simp only [wpOrd, hi', hw, if_true]
  exact h _ fun C' _ _ h1 h2 => ⟨C', h1, h2⟩
end
end Go.Proofs.YtepaanpdjadakaaGreatDoor

namespace Go.Proofs.YtepaanpdjadakaaGreatDoor
open Go Go.RowKit

/-- A slice of one's own: nil, or at the head of a block of one's own. -/
def arr (e : TypeId) (sz : Nat) (v : Value) (n : Nat) (xs : List Value) : HP := fun h =>
  xs.length = n * sz ∧ ((v = .slice none 0 0 ∧ n = 0) ∨
    ∃ g cap cur, v = .slice (some ⟨g, 0, none⟩) n cap ∧ n ≤ cap ∧ cap ≤ maxLen ∧ cur.size = cap * sz ∧ cur.toList.take (n * sz) = xs ∧ h g = some (.cells cur e (0, 0)))

section
variable {B : Nat} {w0 w w' : World} {F : HP} {e : TypeId} {sz n : Nat} {v : Value} {xs : List Value}
theorem star_true {A : HP} (h : ∀ p, A p) (hF : Sat B w0 w F) : Sat B w0 w (A • F) := by
  obtain ⟨p, a, x⟩ := hF.part
  refine ⟨hF.below, hF.le, p, a, fun _ => none, p, fun _ => .inl rfl, ?_, h _, x⟩
  funext b; rfl
theorem arr_nil (hF : Sat B w0 w F) : Sat B w0 w (arr e sz (.slice none 0 0) 0 [] • F) :=
  star_true (fun _ => ⟨by simp, .inl ⟨rfl, rfl⟩⟩) hF
theorem Sat.arr_len (h : Sat B w0 w (arr e sz v n xs • F)) : xs.length = n * sz := by
  obtain ⟨p, _, x⟩ := h.left.part
  exact x.1
/-- Nil, or a block. -/
theorem Sat.arr_open (h : Sat B w0 w (arr e sz v n xs • F)) : (v = .slice none 0 0 ∧ n = 0 ∧ xs = [] ∧ Sat B w0 w F) ∨
    ∃ g cap cur, v = .slice (some ⟨g, 0, none⟩) n cap ∧ n ≤ cap ∧ cap ≤ maxLen ∧ cur.size = cap * sz ∧ cur.toList.take (n * sz) = xs ∧ Sat B w0 w (blk g (.cells cur e (0, 0)) • F) := by
  obtain ⟨p, a, g, k, ha, hj, ⟨hl, hv⟩, y⟩ := h.part
  rcases hv with ⟨rfl, rfl⟩ | ⟨b, cap, cur, rfl, h1, h2, h3, h4, h5⟩
  · exact .inl ⟨rfl, rfl, List.eq_nil_of_length_eq_zero (by simpa using hl), h.drop⟩
  · exact .inr ⟨b, cap, cur, rfl, h1, h2, h3, h4, h.below, h.le, p, a, g, k, ha, hj, h5, y⟩
theorem Sat.arr_shut {g cap : Nat} {cur : Array Value} (hn : n ≤ cap) (hm : cap ≤ maxLen) (hs : cur.size = cap * sz) (ht : cur.toList.take (n * sz) = xs) (h : Sat B w0 w (blk g (.cells cur e (0, 0)) • F)) :
    Sat B w0 w (arr e sz (.slice (some ⟨g, 0, none⟩) n cap) n xs • F) :=
  h.imp_left fun p hp => ⟨by
    rw [← ht, List.length_take, Array.length_toList, hs]
    exact Nat.min_eq_left (Nat.mul_le_mul_right _ hn), .inr ⟨g, cap, cur, rfl, hn, hm, hs, ht, hp⟩⟩
theorem Sat.owns (h : Sat B w0 w (arr e sz v n xs • F)) : w.ownsRow B e sz v n xs := by
  refine ⟨h.arr_len, ?_⟩
  rcases h.arr_open with ⟨rfl, rfl, _, _⟩ | ⟨g, cap, cur, rfl, h1, h2, h3, h4, h5⟩
  · exact .inl ⟨rfl, rfl⟩
  · exact .inr ⟨g, cap, cur, rfl, h5.ge, h5.heap, h1, h2, h3, h4⟩
theorem below_of_grown {row : Option Nat} (hg : w.grownBy w' row) (h : ∀ k, row = some k → w.heap.size ≤ k) : Below w.heap.size w w' :=
  ⟨hg.os, hg.tape, hg.output, hg.size, fun k hk => hg.block k hk (fun e => by have := h k e.symm; omega)⟩
theorem Sat.of_owns {v' : Value} {n' : Nat} {xs' : List Value} (h : Sat B w0 w (arr e sz v n xs • F)) (hg : w.grownBy w' v.ownBlock) (ho : w'.ownsRow B e sz v' n' xs')
    (hat : v'.ownBlock = v.ownBlock ∨ ∃ b, v'.ownBlock = some b ∧ w.heap.size ≤ b) : Sat B w0 w' (arr e sz v' n' xs' • F) := by
  obtain ⟨hl', hv'⟩ := ho
  rcases h.arr_open with ⟨rfl, rfl, _, hF⟩ | ⟨g, cap, cur, rfl, h1, h2, h3, h4, h5⟩
  · have hb : Below w.heap.size w w' := below_of_grown hg (fun k hk => by simp [Value.ownBlock] at hk)
    rcases hv' with ⟨rfl, rfl⟩ | ⟨g', cap', cur', rfl, hB', hh, h1', h2', h3', h4'⟩
    · obtain rfl : xs' = [] := List.eq_nil_of_length_eq_zero (by simpa using hl')
      exact arr_nil (hF.below_ hb)
    · rcases hat with hat | ⟨b, hat, hbs⟩
      · simp [Value.ownBlock] at hat
      · obtain rfl : g' = b := by simpa [Value.ownBlock] using hat
        exact Sat.arr_shut h1' h2' h3' h4' (hF.claim hb hbs hh)
  · have hlt := h5.lt
    obtain ⟨o', ho'⟩ : ∃ o', w'.heap[g]? = some o' := ⟨_, Array.getElem?_eq_getElem (Nat.lt_of_lt_of_le hlt hg.size)⟩
    have h6 := h5.put (by simpa [Value.ownBlock] using hg) ho'
    rcases hv' with ⟨rfl, rfl⟩ | ⟨g', cap', cur', rfl, hB', hh, h1', h2', h3', h4'⟩
    · obtain rfl : xs' = [] := List.eq_nil_of_length_eq_zero (by simpa using hl')
      exact arr_nil h6.drop
    · rcases hat with hat | ⟨b, hat, hbs⟩
      · obtain rfl : g' = g := by simpa [Value.ownBlock] using hat
        rw [ho'] at hh
        cases hh
        exact Sat.arr_shut h1' h2' h3' h4' h6
      · obtain rfl : g' = b := by simpa [Value.ownBlock] using hat
        have hF := h5.drop
        obtain ⟨p, a, x⟩ := h6.drop.part
        -- the new block lies in no old part
        obtain ⟨q, qa, qg, qk, qap, qe, qx, qy⟩ := h5.part
        refine Sat.arr_shut h1' h2' h3' h4' ⟨h6.below, h6.le, Part.join (fun c => if c = g' then some (.cells cur' e (0, 0)) else none) qk, fun c o hc => ?_, _, qk, fun c => ?_, rfl, ?_, qy⟩
        · unfold Part.join at hc
          by_cases ec : c = g'
          · subst ec; simp at hc; subst hc; exact ⟨hB', hh⟩
          · simp [ec] at hc
            have hq : q c = some o := by
              rw [qe]; unfold Part.join
              rcases qap c with h7 | h7
              · rw [h7]; exact hc
              · rw [h7] at hc; cases hc
            obtain ⟨h8, h9⟩ := qa c o hq
            have hcg : c ≠ g := by
              rintro rfl
              have qx' : qg c = some _ := qx
              rcases qap c with h7 | h7
              · rw [h7] at qx'; cases qx'
              · rw [h7] at hc; cases hc
            refine ⟨h8, (hg.block c (Array.getElem?_eq_some_iff.1 h9).1 ?_).trans h9⟩
            simp [Value.ownBlock]; exact hcg
        · by_cases ec : c = g'
          · subst ec
            right
            cases hk : qk c with
            | none => rfl
            | some o =>
              have hq : q c = some o := by
                rw [qe]; unfold Part.join
                rcases qap c with h7 | h7
                · rw [h7]; exact hk
                · rw [h7] at hk; cases hk
              have := (Array.getElem?_eq_some_iff.1 (qa c o hq).2).1
              omega
          · exact .inl (by simp [ec])
        · simp [blk]

theorem Sat.arr_form (h : Sat B w0 w (arr e sz v n xs • F)) : ∃ A c, v = .slice A n c := by
  rcases h.arr_open with ⟨rfl, rfl, _, _⟩ | ⟨g, cap, cur, rfl, _⟩
  · exact ⟨none, 0, rfl⟩
  · exact ⟨_, cap, rfl⟩

/-- What a slice that is read holds: nil, or cells at an address. -/
def Reads (w : World) (v : Value) (m : Nat) (news : List Value) : Prop :=
  (∃ c, v = .slice none 0 c ∧ m = 0 ∧ news = []) ∨ ∃ a c, v = .slice (some a) m c ∧ ∀ j u, news[j]? = some u → w.cell? (a.add j) = some u

theorem Sat.arr_reads (h : Sat B w0 w (arr e sz v n xs • F)) : Reads w v n xs := by
  rcases h.arr_open with ⟨rfl, rfl, rfl, _⟩ | ⟨g, cap, cur, rfl, h1, h2, h3, h4, h5⟩
  · exact .inl ⟨0, rfl, rfl, rfl⟩
  · exact .inr ⟨_, cap, rfl, fun j u hu => h.owns.cells (g := g) rfl j u hu⟩

/-- append onto a slice of one's own. -/
theorem Sat.append {P : Program} {t ty : TypeId} {z : Value} {bytes m : Nat} {news : List Value} {x : Value}
    (h : Sat B w0 w (arr e sz v n xs • F)) (ht : P.underlying t = some (.slice e)) (hi : (P.info? e).map (fun i => (i.zero, i.size, i.bytes)) = some (some z, sz, bytes)) (hzs : z.cells.size = sz) (hsz : 0 < sz)
    (hx : Reads w x m news) (hl : news.length = m * sz) (h1 : ∀ u ∈ news, u.oneCell' = true) (h63 : n + m ≤ maxLen) (hbytes : (n + m) * bytes ≤ 140737488355328) :
    ∃ v' w', (Builtin.append_ #[t, t] ty #[v, x]).run P w = .ok v' w' ∧ Sat B w0 w' (arr e sz v' (n + m) (xs ++ news) • F) := by
  obtain ⟨i0, hi0, hzz⟩ := Option.map_eq_some_iff.1 hi
  simp only [Prod.mk.injEq] at hzz
  obtain ⟨hz0, hz1, hz2⟩ := hzz
  rcases hx with ⟨c, rfl, rfl, rfl⟩ | ⟨a, c, rfl, hc⟩
  · refine ⟨v, w, ?_, by simpa using h⟩
    rcases h.arr_open with ⟨rfl, rfl, _, _⟩ | ⟨g, cap, cur, rfl, h2, _, _, _, _⟩
    · simp [Builtin.append_, run_underlying ht, sizeOf, typeInfo, hi0, Builtin.lenOf, Builtin.firstCells]
    · simp [Builtin.append_, run_underlying ht, sizeOf, typeInfo, hi0, Builtin.lenOf, Builtin.firstCells, h2, storeCells]
  · obtain ⟨v', w', hr, ho, hg, _, hat⟩ := run_append_own_at (P := P) w B t ty e i0 z sz bytes ht hi0 hz0 hz1 hz2 hzs hsz v n xs h.owns a m c news hl hc h1 h63 hbytes h.le
    refine ⟨v', w', hr, h.of_owns hg ho ?_⟩
    rcases hat with hat | hat
    · exact .inl hat
    · exact .inr ⟨_, hat, Nat.le_refl _⟩

/-- append, at the operation. -/
theorem wpList_append_run {P : Program} {ops : Array Oper} {rest : List Oper} {o : Oper} {a : Act} {Q : Exit → Act → World → Prop} (hgd : o.guard = none) (s x : Operand) (t : TypeId)
    (ho : o.op = .call { callee := .builtin .append, args := #[s, x], argTypes := #[t, t] }) {vs vx v' : Value} (hs : a.eval s = vs) (hx : a.eval x = vx)
    (hr : (Builtin.append_ #[t, t] o.type #[vs, vx]).run P w = .ok v' w') (h : wpList P ops Q rest (a.put o.dst v') w') : wpList P ops Q (o :: rest) a w := by
  refine wpList_plain hgd fun K hK => ?_
  unfold Oper.wp execOp
  simp only [ho, resolve, invoke, builtin, Sem.run_bind, Sem.run_pure, Result.andThen_ok, List.map_toArray, List.map_cons, List.map_nil, hs, hx, hr]
  exact hK _ _ h
theorem wp_append_run {P : Program} {o : Oper} {a : Act} {K : Act → World → Prop} {Q : Exit → Act → World → Prop} (s x : Operand) (t : TypeId)
    (ho : o.op = .call { callee := .builtin .append, args := #[s, x], argTypes := #[t, t] }) {vs vx v' : Value} (hs : a.eval s = vs) (hx : a.eval x = vx)
    (hr : (Builtin.append_ #[t, t] o.type #[vs, vx]).run P w = .ok v' w') (h : K (a.put o.dst v') w') : o.wp P a w K Q := by
  unfold Oper.wp execOp
  simp only [ho, resolve, invoke, builtin, Sem.run_bind, Sem.run_pure, Result.andThen_ok, List.map_toArray, List.map_cons, List.map_nil, hs, hx, hr]
  exact h
end
end Go.Proofs.YtepaanpdjadakaaGreatDoor

namespace Go.Proofs.YtepaanpdjadakaaGreatDoor
open Go Go.RowKit

/-- Some cells in the midst of others. -/
def splice (cur : Array Value) (o : Nat) (vs : List Value) : Array Value := (cur.toList.take o ++ vs ++ cur.toList.drop (o + vs.length)).toArray
theorem splice_size {cur : Array Value} {o : Nat} {vs : List Value} (h : o + vs.length ≤ cur.size) : (splice cur o vs).size = cur.size := by
  simp only [splice, List.size_toArray, List.length_append, List.length_take, List.length_drop, Array.length_toList]; omega
theorem splice_get {cur : Array Value} {o : Nat} {vs : List Value} (h : o + vs.length ≤ cur.size) (i : Nat) :
    (splice cur o vs)[i]? = if i < o then cur[i]? else if i < o + vs.length then vs[i - o]? else cur[i]? := by
  simp only [splice, List.getElem?_toArray]
  split
  · rename_i h1
    rw [List.append_assoc, List.getElem?_append_left (by rw [List.length_take, Array.length_toList]; omega), List.getElem?_take, if_pos h1]; simp
  · split
    · rename_i h1 h2
      rw [List.append_assoc, List.getElem?_append_right (by rw [List.length_take, Array.length_toList]; omega), List.getElem?_append_left (by rw [List.length_take, Array.length_toList]; omega)]
      congr 1
      rw [List.length_take, Array.length_toList]; omega
    · rename_i h1 h2
      have hl : (cur.toList.take o ++ vs).length = o + vs.length := by rw [List.length_append, List.length_take, Array.length_toList]; omega
      rw [List.getElem?_append_right (by omega), hl, List.getElem?_drop]
      rw [show o + vs.length + (i - (o + vs.length)) = i by omega]; simp
theorem splice_one {cur : Array Value} {o : Nat} {v : Value} (h : o < cur.size) : splice cur o [v] = cur.setIfInBounds o v := by
  apply Array.ext
  · rw [splice_size (by simp; omega)]; simp
  · intro i h1 h2
    have := splice_get (cur := cur) (o := o) (vs := [v]) (by simp; omega) i
    rw [Array.getElem?_eq_getElem h1] at this
    have h3 : (cur.setIfInBounds o v)[i]? = some ((cur.setIfInBounds o v)[i]) := Array.getElem?_eq_getElem h2
    have h4 : i < cur.size := by simpa using h2
    rw [Array.getElem?_setIfInBounds] at h3
    by_cases e : o = i
    · subst e
      simp at this h3
      rw [this]; simp
    · have : (splice cur o [v])[i] = cur[i] := by
        rw [← Option.some_inj, this]
        split
        · simp
        · rw [if_neg (by simp; omega)]; simp
      rw [this, Array.getElem_setIfInBounds_ne (by simpa using h2) e]

section
variable {B : Nat} {w0 w w' : World} {F : HP} {P : Program}
theorem grownBy_setRow (w : World) (g : Nat) (cs : Array Value) : w.grownBy (w.setRow g cs) (some g) :=
  ⟨rfl, rfl, rfl, by simp [World.setRow], fun k _ hk => setRow_other w g k _ (fun e => hk (by rw [e]))⟩
theorem Sat.setRow {g : Nat} {old cs : Array Value} {t : TypeId} {fr : Nat × Nat} (h : Sat B w0 w (blk g (.cells old t fr) • F)) : Sat B w0 (w.setRow g cs) (blk g (.cells cs t fr) • F) :=
  h.put (grownBy_setRow w g cs) (setRow_heap w g old cs t fr h.heap)

theorem run_storeAt_row {b o : Nat} {ty t : TypeId} {cur : Array Value} {v : Value} (hg : w.heap[b]? = some (.cells cur t (0, 0))) (hi : (P.info? ty).map (·.size) = some v.cells.size) (hl : o + v.cells.size ≤ cur.size) (h1 : ∀ u ∈ v.cells.toList, u.oneCell' = true) :
    (Instr.storeAt ty (.pointer (some ⟨b, o, none⟩)) v).run P w = .ok () (w.setRow b (splice cur o v.cells.toList)) := by
  have := run_storeCells_at (P := P) b o t v.cells.toList 0 cur w hg (by simpa using hl) h1
  simp only [Nat.add_zero] at this
  cases hq : P.info? ty with
  | none => simp [hq] at hi
  | some i =>
    have hs : v.cells.size = i.size := by simp [hq] at hi; omega
    simp only [Instr.storeAt, Instr.sureAddr, Sem.run_bind, Sem.run_pure, Result.andThen_ok]
    simp [storeVar, sizeOf, typeInfo, hq, hs, this, splice]
theorem run_loadAt_one {b o : Nat} {ty t : TypeId} {cur : Array Value} {fr : Nat × Nat} {v : Value} {d : TypeDesc} (hg : w.heap[b]? = some (.cells cur t fr)) (hu : P.underlying ty = some d) (hd : d.isRow = false) (hv : cur[o]? = some v) :
    (Instr.loadAt ty (.pointer (some ⟨b, o, none⟩))).run P w = .ok v w := by
  have hagg : (isAgg ty).run P w = .ok false w := by
    unfold isAgg
    rw [Sem.run_bind, run_underlying hu w]
    cases d <;> simp_all
  have hc : w.cell? ⟨b, o, none⟩ = some v := by simp [World.cell?, hg, hv]
  simp only [Instr.loadAt, Instr.sureAddr, Sem.run_bind, Sem.run_pure, Result.andThen_ok, loadVar, hagg]
  simp [load, Sem.run, hc]
theorem run_loadAt_row {b o : Nat} {ty t : TypeId} {cur : Array Value} {fr : Nat × Nat} {cs : List Value} {d : TypeDesc} (hg : w.heap[b]? = some (.cells cur t fr)) (hu : P.underlying ty = some d) (hd : d.isRow = true)
    (hi : (P.info? ty).map (·.size) = some cs.length) (hv : ∀ j u, cs[j]? = some u → cur[o + j]? = some u) :
    (Instr.loadAt ty (.pointer (some ⟨b, o, none⟩))).run P w = .ok (.agg cs.toArray) w :=
  run_loadAt_mid w b o ty cs d (fun j u hu => by simp [World.cell?, hg, hv j u hu]) hu hd hi

/-! The operations -/
theorem wp_load_run {o : Oper} {a : Act} {K : Act → World → Prop} {Q : Exit → Act → World → Prop} {t : TypeId} {x : Operand} (ho : o.op = .load t x) {p v : Value} (hx : a.eval x = p)
    (hr : (Instr.loadAt t p).run P w = .ok v w) (h : K (a.put o.dst v) w) : o.wp P a w K Q := by
  unfold Oper.wp execOp
  simp only [ho, hx, Sem.run_bind, hr, Result.andThen_ok, Sem.run_pure, Oper.upon]
  exact h
theorem wp_store_run {o : Oper} {a : Act} {K : Act → World → Prop} {Q : Exit → Act → World → Prop} {t : TypeId} {x y : Operand} (ho : o.op = .store t x y) {p v : Value} (hx : a.eval x = p) (hy : a.eval y = v)
    (hr : (Instr.storeAt t p v).run P w = .ok () w') (h : K (a.put o.dst undef) w') : o.wp P a w K Q := by
  unfold Oper.wp execOp
  simp only [ho, hx, hy, Sem.run_bind, hr, Result.andThen_ok, Sem.run_pure, Oper.upon]
  exact h
theorem wpList_load_run {ops : Array Oper} {rest : List Oper} {o : Oper} {a : Act} {Q : Exit → Act → World → Prop} (hgd : o.guard = none) {t : TypeId} {x : Operand} (ho : o.op = .load t x) {p v : Value} (hx : a.eval x = p)
    (hr : (Instr.loadAt t p).run P w = .ok v w) (h : wpList P ops Q rest (a.put o.dst v) w) : wpList P ops Q (o :: rest) a w :=
  wpList_plain hgd fun _ hK => wp_load_run ho hx hr (hK _ _ h)
theorem wpList_store_run {ops : Array Oper} {rest : List Oper} {o : Oper} {a : Act} {Q : Exit → Act → World → Prop} (hgd : o.guard = none) {t : TypeId} {x y : Operand} (ho : o.op = .store t x y) {p v : Value} (hx : a.eval x = p) (hy : a.eval y = v)
    (hr : (Instr.storeAt t p v).run P w = .ok () w') (h : wpList P ops Q rest (a.put o.dst undef) w') : wpList P ops Q (o :: rest) a w :=
  wpList_plain hgd fun _ hK => wp_store_run ho hx hy hr (hK _ _ h)

variable {K : Act → World → Prop} {C : World → Prop} {a : Act} {i : Nat} {rest : List (Nat × How)} {o : Oper} {l : List Oper}
theorem ord_load (hi : l[i]? = some o) (hw : Region.wanted o (yielded l.toArray a.tmps) = true) {t : TypeId} {x : Operand} (ho : o.op = .load t x) {p v : Value} (hx : a.eval x = p)
    (hr : ∀ w', C w' → (Instr.loadAt t p).run P w' = .ok v w') (h : ∀ K' : Act → Prop, (∀ a, wpOrd P l.toArray K C rest a w → K' a) → K' (a.put o.dst v)) : wpOrd P l.toArray K C ((i, .quiet) :: rest) a w := by
  have hi' : l.toArray[i]? = some o := by simpa using hi
  simp only [wpOrd, hi', hw, if_true]
  refine ⟨v, fun w' hC => ?_, h _ fun _ h => h⟩
  unfold execOp
  simp only [ho, hx, Sem.run_bind, hr w' hC, Result.andThen_ok, Sem.run_pure]
theorem ord_store (hi : l[i]? = some o) (hw : Region.wanted o (yielded l.toArray a.tmps) = true) {t : TypeId} {x y : Operand} (ho : o.op = .store t x y) (hd : o.dst = none) {p v : Value} (hx : a.eval x = p) (hy : a.eval y = v)
    (hr : (Instr.storeAt t p v).run P w = .ok () w') (C' : World → Prop) (hC : C' w') (h : wpOrd P l.toArray K C' rest a w') : wpOrd P l.toArray K C ((i, .seals) :: rest) a w :=
  ord_seals hi hw fun _ hK => wp_store_run ho hx hy hr (hK C' _ _ hC (by rw [hd]; exact h))
end
end Go.Proofs.YtepaanpdjadakaaGreatDoor

/-! '==' of structs and rows of bytes. -/
namespace Go.Proofs.YtepaanpdjadakaaGreatDoor
open Go Go.RowKit

section
variable {P : Program} {w : World}

def isRowD : TypeDesc → Bool
  | .struct _ | .array _ _ => true
  | _ => false
theorem run_isAgg {t : TypeId} {d : TypeDesc} (hu : P.underlying t = some d) : (isAgg t).run P w = .ok (isRowD d) w := by
  unfold isAgg
  rw [Sem.run_bind, run_underlying hu w]
  cases d <;> rfl
/-- A part of some cells. -/
theorem run_part_row {t : TypeId} {d : TypeDesc} (hu : P.underlying t = some d) (hd : isRowD d = true) {xs mid : List Value} {o : Nat} (hi : (P.info? t).map (·.size) = some mid.length) (hx : (xs.drop o).take mid.length = mid) :
    (part t xs.toArray o).run P w = .ok (.agg mid.toArray) w := by
  cases hq : P.info? t with
  | none => simp [hq] at hi
  | some i =>
    have hs : i.size = mid.length := by simpa [hq] using hi
    simp only [part, Sem.run_bind, run_isAgg hu, hd, Result.andThen_ok, if_true]
    simp only [sizeOf, typeInfo, Sem.run_bind, run_program, Result.andThen_ok, hq, Sem.run_pure, hs]
    rw [List.extract_toArray, List.extract_eq_take_drop, Nat.add_sub_cancel_left, hx]
theorem run_part_one {t : TypeId} {d : TypeDesc} (hu : P.underlying t = some d) (hd : isRowD d = false) {xs : List Value} {v : Value} {o : Nat} (hx : xs[o]? = some v) :
    (part t xs.toArray o).run P w = .ok v w := by
  simp only [part, Sem.run_bind, run_isAgg hu, hd, Result.andThen_ok, Bool.false_eq_true, if_false]
  simp [hx]

/-- That two values are the same, or not. -/
def EqV (P : Program) (w : World) (d : Nat) (t : TypeId) (x y : Value) (r : Bool) : Prop := (Op.equalIn d t x y).run P w = .ok r w
def EqF (P : Program) (w : World) (d : Nat) (xs ys : List Value) (fs : List Field) (r : Bool) : Prop := (Op.eqFields d xs.toArray ys.toArray fs).run P w = .ok r w
variable {d : Nat} {xs ys : List Value} {f : Field} {fs : List Field} {r s : Bool}
theorem EqF.nil : EqF P w d xs ys [] true := by simp [EqF, Op.eqFields]
theorem EqF.cons {a b : Value} (hn : f.name ≠ "_") (ha : (part f.type xs.toArray f.offset).run P w = .ok a w) (hb : (part f.type ys.toArray f.offset).run P w = .ok b w) (he : EqV P w d f.type a b r) (hr : EqF P w d xs ys fs s) :
    EqF P w d xs ys (f :: fs) (r && s) := by
  unfold EqF EqV at *
  rw [Op.eqFields, if_pos hn]
  simp only [Sem.run_bind, ha, hb, he, Result.andThen_ok]
  cases r
  · simp
  · simpa using hr
theorem EqV.struct {t : TypeId} {fa : Array Field} (hu : P.underlying t = some (.struct fa)) (hp : P.stoodInHeld t = false) (h : EqF P w d xs ys fa.toList r) : EqV P w (d + 1) t (.agg xs.toArray) (.agg ys.toArray) r := by
  have hf : P.fieldsOf t = fa := by simp [Program.fieldsOf, hu]
  unfold EqV
  rw [run_equalIn_struct (P := P) w d t xs.toArray ys.toArray (by rw [hf]; exact hu) hp, hf]
  exact h
theorem EqV.int {t : TypeId} {k k' : IntKind} {a b : Int} (hu : P.underlying t = some (.int k')) : EqV P w (d + 1) t (.int k a) (.int k b) (a == b) := run_equalIn_int w d t k k' a b hu
theorem EqV.bool {t : TypeId} {a b : Bool} (hu : P.underlying t = some .bool) : EqV P w (d + 1) t (.bool a) (.bool b) (a == b) := run_equalIn_bool w d t a b hu
theorem EqV.string {t : TypeId} {a b : ByteArray} (hu : P.underlying t = some .string) : EqV P w (d + 1) t (.string a) (.string b) (a.toList == b.toList) := run_equalIn_string w d t a b hu

/-- A row of whole numbers. -/
theorem EqV.ints {t e : TypeId} {k k' : IntKind} {n : Nat} (hu : P.underlying t = some (.array n e)) (he : P.underlying e = some (.int k')) (hs : (P.info? e).map (·.size) = some 1) {la lb : List Int} (ha : la.length = n) (hb : lb.length = n) :
    EqV P w (d + 2) t (.agg (la.map (.int k)).toArray) (.agg (lb.map (.int k)).toArray) (decide (la = lb)) := by
  obtain ⟨i0, hi0, hsz⟩ := Option.map_eq_some_iff.1 hs
  have key : ∀ (l : List Nat) (la lb : List Int) (w : World), (∀ i ∈ l, i < la.length ∧ i < lb.length) →
      (forIn l ((none, ()) : Option Bool × Unit) (fun (i : Nat) (_ : Option Bool × Unit) => do
        let a ← part e (la.map (.int k)).toArray (i * 1)
        let b ← part e (lb.map (.int k)).toArray (i * 1)
        let r ← Op.equalIn (d + 1) e a b
        if (!r) = true then pure (ForInStep.done (some false, ())) else pure (ForInStep.yield (none, ())) : _ → _ → Sem (ForInStep (Option Bool × Unit)))).run P w =
        .ok (if ∀ i ∈ l, nth la i = nth lb i then (none, ()) else (some false, ())) w := by
    intro l
    induction l with
    | nil => intro la lb w _; simp [List.forIn_nil]
    | cons i l ih =>
      intro la lb w hl
      obtain ⟨h1, h2⟩ := hl i (by simp)
      have e1 : (part e (la.map (.int k)).toArray (i * 1)).run P w = .ok (.int k (nth la i)) w := run_part_one he rfl (by simp [nth_eq h1])
      have e2 : (part e (lb.map (.int k)).toArray (i * 1)).run P w = .ok (.int k (nth lb i)) w := run_part_one he rfl (by simp [nth_eq h2])
      simp only [List.forIn_cons, Sem.run_bind, e1, e2, Result.andThen_ok, run_equalIn_int w d e k k' _ _ he]
      by_cases hq : nth la i = nth lb i
      · simp only [hq, beq_self_eq_true, Bool.not_true, Bool.false_eq_true, if_false, Sem.run_pure, Result.andThen_ok]
        rw [ih la lb w (fun j hj => hl j (by simp [hj]))]
        simp [hq]
      · have hb' : (nth la i == nth lb i) = false := by simpa using hq
        simp only [hb', Bool.not_false, if_true, Sem.run_pure, Result.andThen_ok]
        simp [hq]
  have hall : (∀ i ∈ List.range' 0 n, nth la i = nth lb i) ↔ la = lb := by
    constructor
    · intro h
      apply List.ext_getElem?
      intro i
      by_cases hi : i < n
      · rw [nth_eq (by omega), nth_eq (by omega), h i (by simp [List.mem_range']; omega)]
      · rw [List.getElem?_eq_none (by omega), List.getElem?_eq_none (by omega)]
    · rintro rfl i _; rfl
  unfold EqV
  rw [Op.equalIn]
  simp only [Sem.run_bind, run_underlying hu, Result.andThen_ok, sizeOf, typeInfo, run_program, hi0, Sem.run_pure, hsz]
  rw [Std.Legacy.Range.forIn_eq_forIn_range']
  have hk := key (List.range' 0 n) la lb w (fun i hi => by simp [List.mem_range'] at hi; omega)
  have hr : List.range' [:n].start [:n].size [:n].step = List.range' 0 n := by simp [Std.Legacy.Range.size]
  rw [hr, hk, Result.andThen_ok]
  by_cases h : la = lb
  · rw [if_pos (hall.2 h)]; simp [h]
  · rw [if_neg (fun h' => h (hall.1 h'))]; simp [h]
end
end Go.Proofs.YtepaanpdjadakaaGreatDoor

/-! Slices of things of several cells. -/
namespace Go.Proofs.YtepaanpdjadakaaGreatDoor
open Go Go.RowKit

theorem flat_length {α : Type} {enc : α → List Value} {sz : Nat} (hsz : ∀ x, (enc x).length = sz) (l : List α) : (l.flatMap enc).length = l.length * sz := by
  induction l with
  | nil => simp
  | cons x l ih => rw [List.flatMap_cons, List.length_append, ih, hsz, List.length_cons, Nat.add_mul]; omega
theorem flat_get {α : Type} {enc : α → List Value} {sz : Nat} (hsz : ∀ x, (enc x).length = sz) : ∀ (l : List α) (i j : Nat) (x : α), l[i]? = some x → j < sz → (l.flatMap enc)[i * sz + j]? = (enc x)[j]? := by
  intro l
  induction l with
  | nil => intro i j x h; simp at h
  | cons y l ih =>
    intro i j x h hj
    rw [List.flatMap_cons]
    cases i with
    | zero =>
      simp only [List.getElem?_cons_zero, Option.some.injEq] at h
      subst h
      rw [Nat.zero_mul, Nat.zero_add, List.getElem?_append_left (by rw [hsz]; exact hj)]
    | succ i =>
      rw [List.getElem?_append_right (by rw [hsz, Nat.succ_mul]; omega), hsz]
      rw [show (i + 1) * sz + j - sz = i * sz + j by rw [Nat.succ_mul]; omega]
      exact ih i j x (by simpa using h) hj
theorem add_add' (a : Addr) (i j : Nat) : (a.add i).add j = a.add (i + j) := by
  unfold Addr.add
  by_cases h1 : i = 0 <;> by_cases h2 : j = 0 <;> simp [h1, h2, Nat.add_assoc]
theorem add_block (a : Addr) (i : Nat) : (a.add i).block = a.block := by unfold Addr.add; split <;> rfl

section
variable {B : Nat} {w0 w w' : World} {F : HP} {P : Program}
/-- An element of a slice that is read. -/
theorem Reads.elem {α : Type} {enc : α → List Value} {sz : Nat} (hsz : ∀ x, (enc x).length = sz) {v : Value} {l : List α} (h : Reads w v l.length (l.flatMap enc)) {i : Nat} {x : α} (hi : l[i]? = some x) :
    ∃ a c, v = .slice (some a) l.length c ∧ ∀ j u, (enc x)[j]? = some u → w.cell? (a.add (i * sz + j)) = some u := by
  have hlt : i < l.length := (List.getElem?_eq_some_iff.1 hi).1
  rcases h with ⟨c, rfl, h0, _⟩ | ⟨a, c, rfl, h⟩
  · omega
  · refine ⟨a, c, rfl, fun j u hu => h _ _ ?_⟩
    have hj : j < sz := by have := (List.getElem?_eq_some_iff.1 hu).1; rwa [hsz] at this
    rw [flat_get hsz l i j x hi hj, hu]
theorem Reads.below {v : Value} {n : Nat} {cs : List Value} (h : Reads w v n cs) (hb : Below w.heap.size w w') : Reads w' v n cs := by
  rcases h with h | ⟨a, c, rfl, h⟩
  · exact .inl h
  · exact .inr ⟨a, c, rfl, fun j u hu => by
      have := h j u hu
      rw [hb.cell (World.block_lt_of_cell? _ _ this)]; exact this⟩
theorem Reads.len {v : Value} {n : Nat} {cs : List Value} (h : Reads w v n cs) : ∃ A c, v = .slice A n c := by
  rcases h with ⟨c, rfl, rfl, _⟩ | ⟨a, c, rfl, _⟩
  · exact ⟨_, _, rfl⟩
  · exact ⟨_, _, rfl⟩
/-- A struct or a row, at an address. -/
theorem run_loadAt_cells {p : Addr} {ty : TypeId} {cs : List Value} {d : TypeDesc} (hu : P.underlying ty = some d) (hd : d.isRow = true) (hi : (P.info? ty).map (·.size) = some cs.length)
    (hc : ∀ j u, cs[j]? = some u → w.cell? (p.add j) = some u) : (Instr.loadAt ty (.pointer (some p))).run P w = .ok (.agg cs.toArray) w := by
  have hl := run_loadCells_list (P := P) w p cs hc
  cases hq : P.info? ty with
  | none => simp [hq] at hi
  | some i =>
    have hs : i.size = cs.length := by simpa [hq] using hi
    have hagg : (isAgg ty).run P w = .ok true w := by
      rw [run_isAgg hu]
      cases d <;> simp_all [isRowD]
    simp only [Instr.loadAt, Instr.sureAddr, Sem.run_bind, Sem.run_pure, Result.andThen_ok]
    simp [loadVar, Sem.run_bind, hagg, sizeOf, typeInfo, hq, hs, hl]
/-- A variable that was just made takes a whole value. -/
theorem setRow_alloc (w : World) (z c : Array Value) (t : TypeId) : (w.alloc (.cells z t)).setRow w.heap.size c = w.alloc (.cells c t) := by
  unfold World.setRow World.alloc
  congr 1
  apply Array.ext
  · simp
  · intro i h1 h2
    simp only [Array.size_modify, Array.size_push] at h1
    rw [Array.getElem_modify]
    by_cases e : w.heap.size = i
    · subst e; simp
    · rw [if_neg e]
      simp [Array.getElem_push, show i < w.heap.size by omega]
theorem run_storeAt_new {ty t : TypeId} {z : Array Value} {v : Value} (hi : (P.info? ty).map (·.size) = some v.cells.size) (hz : z.size = v.cells.size) (h1 : ∀ u ∈ v.cells.toList, u.oneCell' = true) :
    (Instr.storeAt ty (.pointer (some ⟨w.heap.size, 0, none⟩)) v).run P (w.alloc (.cells z t)) = .ok () (w.alloc (.cells v.cells t)) := by
  rw [run_storeAt_row (heap_alloc_new w _) hi (by omega) h1, setRow_alloc]
  congr 3
  unfold splice
  simp only [List.take_zero, List.nil_append, Nat.zero_add]
  rw [List.drop_eq_nil_of_le (by simp; omega)]
  simp
theorem splice_all {cur : Array Value} {vs : List Value} (h : vs.length = cur.size) : splice cur 0 vs = vs.toArray := by
  unfold splice
  simp only [List.take_zero, List.nil_append, Nat.zero_add]
  rw [List.drop_eq_nil_of_le (by simp; omega)]
  simp
/-- What is handed back lies in a variable. -/
theorem run_loadVar_of {t : TypeId} {p : Addr} {v : Value} (h : (Instr.loadAt t (.pointer (some p))).run P w = .ok v w) : (loadVar t p).run P w = .ok v w := by
  simpa [Instr.loadAt, Instr.sureAddr, Sem.run_bind] using h
theorem ret_cell {fn : Func} {R : Ending → World → Prop} {a : Act} {p : Tmp} {ty : TypeId} {d : Addr} {v : Value} (h : fn.results = #[.cell p ty]) (hp : a.tmps.getD p undef = .pointer (some d))
    (hl : (Instr.loadAt ty (.pointer (some d))).run P w = .ok v w) (hd : a.defers = []) (hR : R (.returned v) w) : bodyPost P fn R .ret a w := by
  refine bodyPost_ret (v := v) ?_ hd hR
  have hp' : a.tmps[p]?.getD undef = .pointer (some d) := by simpa using hp
  simp [results, h, hp', asAddr, run_loadVar_of hl]
theorem ret_cell_tmp {fn : Func} {R : Ending → World → Prop} {a : Act} {p u : Tmp} {ty : TypeId} {d : Addr} {v x : Value} (h : fn.results = #[.cell p ty, .tmp u]) (hp : a.tmps.getD p undef = .pointer (some d)) (hu : a.tmps.getD u undef = x)
    (hl : (Instr.loadAt ty (.pointer (some d))).run P w = .ok v w) (hd : a.defers = []) (hR : R (.returned (.tuple #[v, x])) w) : bodyPost P fn R .ret a w := by
  refine bodyPost_ret (v := .tuple #[v, x]) ?_ hd hR
  rw [results_cell_tmp h, hp, hu]
  simp [asAddr, run_loadVar_of hl]
/-- '==', at the operation. -/
theorem wp_eql_run {o : Oper} {a : Act} {K : Act → World → Prop} {Q : Exit → Act → World → Prop} {t t' : TypeId} {x y : Operand} (ho : o.op = .binOp .eql t x y t') {xs ys : Array Value} {r : Bool} (hx : a.eval x = .agg xs) (hy : a.eval y = .agg ys)
    (hg : P.eqGuardType P.depth t = false) (hr : EqV P w 10000 t (.agg xs) (.agg ys) r) (h : K (a.put o.dst (.bool r)) w) : o.wp P a w K Q := by
  unfold Oper.wp execOp
  simp only [ho, hx, hy, Sem.run_bind, run_eqGuard_agg w _ _ _ _ _ _ hg, Result.andThen_ok, run_eql_struct]
  rw [show (Op.equalIn 10000 t (.agg xs) (.agg ys)).run P w = .ok r w from hr]
  simp only [Result.andThen_ok, Sem.run_pure, Oper.upon]
  exact h
theorem wpList_eql_run {ops : Array Oper} {rest : List Oper} {o : Oper} {a : Act} {Q : Exit → Act → World → Prop} (hgd : o.guard = none) {t t' : TypeId} {x y : Operand} (ho : o.op = .binOp .eql t x y t') {xs ys : Array Value} {r : Bool} (hx : a.eval x = .agg xs) (hy : a.eval y = .agg ys)
    (hg : P.eqGuardType P.depth t = false) (hr : EqV P w 10000 t (.agg xs) (.agg ys) r) (h : wpList P ops Q rest (a.put o.dst (.bool r)) w) : wpList P ops Q (o :: rest) a w :=
  wpList_plain hgd fun _ hK => wp_eql_run ho hx hy hg hr (hK _ _ h)
variable {K : Act → World → Prop} {C : World → Prop} {a : Act} {i : Nat} {rest : List (Nat × How)} {o : Oper} {l : List Oper}
theorem ord_eql (hi : l[i]? = some o) (hw : Region.wanted o (yielded l.toArray a.tmps) = true) {t t' : TypeId} {x y : Operand} (ho : o.op = .binOp .eql t x y t') {xs ys : Array Value} {r : Bool} (hx : a.eval x = .agg xs) (hy : a.eval y = .agg ys)
    (hg : P.eqGuardType P.depth t = false) (hr : ∀ w', EqV P w' 10000 t (.agg xs) (.agg ys) r) (h : ∀ K' : Act → Prop, (∀ a, wpOrd P l.toArray K C rest a w → K' a) → K' (a.put o.dst (.bool r))) : wpOrd P l.toArray K C ((i, .pure) :: rest) a w := by
  have hi' : l.toArray[i]? = some o := by simpa using hi
  simp only [wpOrd, hi', hw, if_true]
  refine ⟨.bool r, fun w' => ?_, h _ fun _ h => h⟩
  unfold execOp
  simp only [ho, hx, hy, Sem.run_bind, run_eqGuard_agg w' _ _ _ _ _ _ hg, Result.andThen_ok, run_eql_struct]
  rw [show (Op.equalIn 10000 t (.agg xs) (.agg ys)).run P w' = .ok r w' from hr w']
  simp only [Result.andThen_ok, Sem.run_pure]
end
end Go.Proofs.YtepaanpdjadakaaGreatDoor

/-! Literals of structs, and slices of one thing. -/
namespace Go.Proofs.YtepaanpdjadakaaGreatDoor
open Go Go.RowKit

theorem flat_len {sz : Nat} : ∀ (vs : List Value), (∀ v ∈ vs, v.cells.size = sz) → (vs.flatMap fun v => v.cells.toList).length = vs.length * sz := by
  intro vs
  induction vs with
  | nil => intro _; simp
  | cons v vs ih =>
    intro h
    rw [List.flatMap_cons, List.length_append, ih (fun u hu => h u (by simp [hu])), List.length_cons, Nat.add_mul, Array.length_toList, h v (by simp)]
    omega
/-- A walk with arms of its own is stopped behind the last of them. -/
def Stop (p : Prop) : Prop := p
theorem stop_ {p : Prop} (h : Stop p) : p := h
theorem fold_splice : ∀ (vs : List Value) (k : Nat) (cells : Array Value) (off : Nat), off + k + vs.length ≤ cells.size →
    (vs.toArray.zipIdx k).foldl (fun cs (x : Value × Nat) => cs.setIfInBounds (off + x.2) x.1) cells = splice cells (off + k) vs := by
  intro vs
  induction vs with
  | nil =>
    intro k cells off h
    rw [← Array.foldl_toList, Array.toList_zipIdx]
    simp [splice]
  | cons v vs ih =>
    intro k cells off h
    rw [← Array.foldl_toList, Array.toList_zipIdx, List.zipIdx_cons, List.foldl_cons]
    have h2 := ih (k + 1) (cells.setIfInBounds (off + k) v) off (by simp at h ⊢; omega)
    rw [← Array.foldl_toList, Array.toList_zipIdx] at h2
    rw [h2]
    unfold splice
    congr 1
    simp only [Array.toList_setIfInBounds]
    simp only [List.length_cons] at h
    rw [show off + (k + 1) = off + k + 1 by omega]
    rw [List.take_set, List.take_add_one, List.set_append_right _ _ (by simp; omega)]
    simp only [List.length_take, Array.length_toList]
    rw [Nat.min_eq_left (by omega), Nat.sub_self, List.getElem?_eq_getElem (by simp; omega)]
    simp only [Option.toList_some, List.set_cons_zero, List.length_cons, List.append_assoc, List.singleton_append]
    rw [List.drop_set_of_lt (by omega)]
    rw [show off + k + 1 + vs.length = off + k + (vs.length + 1) by omega]
theorem fill_one {place : Nat → Option (Nat × Nat)} {i off : Nat} {v : Value} {cells : Array Value} {rest : List (Nat × Value)} (hp : place i = some (off, v.cells.size)) (hle : off + v.cells.size ≤ cells.size) :
    Instr.fill place cells ((i, v) :: rest) = Instr.fill place (splice cells off v.cells.toList) rest := by
  rw [Instr.fill, hp]
  simp only
  rw [if_neg (by simp; omega)]
  have := fold_splice v.cells.toList 0 cells off (by simpa using hle)
  simp only [Array.toArray_toList, Nat.add_zero] at this
  rw [← this]
theorem built_struct {P : Program} {t : TypeId} {fields : Array Field} {places : List (Nat × Nat)} {z : Value} {parts : List (Nat × Value)} (hu : P.underlying t = some (.struct fields)) (hz : (P.info? t).map (·.zero) = some (some z))
    (hp : fields.toList.mapM (fun f => (P.info? f.type).map fun i => (f.offset, i.size)) = some places) : P.built t parts = Instr.fill (places.toArray[·]?) z.cells parts := by
  obtain ⟨it, hit, hz'⟩ := Option.map_eq_some_iff.1 hz
  simp [Program.built, hit, hu, hz', hp]

section
variable {P : Program} {w w' : World}
theorem wpList_build_run {ops : Array Oper} {rest : List Oper} {o : Oper} {a : Act} {Q : Exit → Act → World → Prop} (hgd : o.guard = none) {t : TypeId} {parts : Array (Nat × Operand)} (ho : o.op = .build t parts) {vs : List (Nat × Value)} {cells : Array Value}
    (hv : (parts.map fun (i, x) => (i, a.eval x)).toList = vs) (hb : P.built t vs = some cells) (h : wpList P ops Q rest (a.put o.dst (.agg cells)) w) : wpList P ops Q (o :: rest) a w :=
  wpList_plain hgd fun _ hK => wp_build t parts ho (by rw [hv, hb]; rfl) (hK _ _ (by rw [hv, hb]; exact h))
theorem wpList_build2_run {ops : Array Oper} {rest : List Oper} {o : Oper} {a : Act} {Q : Exit → Act → World → Prop} (hgd : o.guard = none) {t : TypeId} {i j : Nat} {x y : Operand} (ho : o.op = .build t #[(i, x), (j, y)]) {u v : Value} {cells : Array Value}
    (hx : a.eval x = u) (hy : a.eval y = v) (hb : P.built t [(i, u), (j, v)] = some cells) (h : wpList P ops Q rest (a.put o.dst (.agg cells)) w) : wpList P ops Q (o :: rest) a w :=
  wpList_build_run hgd ho (vs := [(i, u), (j, v)]) (by simp [hx, hy]) hb h
theorem wpList_build5_run {ops : Array Oper} {rest : List Oper} {o : Oper} {a : Act} {Q : Exit → Act → World → Prop} (hgd : o.guard = none) {t : TypeId} {i1 i2 i3 i4 i5 : Nat} {x1 x2 x3 x4 x5 : Operand} (ho : o.op = .build t #[(i1, x1), (i2, x2), (i3, x3), (i4, x4), (i5, x5)]) {v1 v2 v3 v4 v5 : Value} {cells : Array Value}
    (h1 : a.eval x1 = v1) (h2 : a.eval x2 = v2) (h3 : a.eval x3 = v3) (h4 : a.eval x4 = v4) (h5 : a.eval x5 = v5) (hb : P.built t [(i1, v1), (i2, v2), (i3, v3), (i4, v4), (i5, v5)] = some cells) (h : wpList P ops Q rest (a.put o.dst (.agg cells)) w) : wpList P ops Q (o :: rest) a w :=
  wpList_build_run hgd ho (vs := [(i1, v1), (i2, v2), (i3, v3), (i4, v4), (i5, v5)]) (by simp [h1, h2, h3, h4, h5]) hb h
theorem fill_row {sz : Nat} : ∀ (vs : List Value) (k : Nat) (cells : Array Value), (∀ v ∈ vs, v.cells.size = sz) → (k + vs.length) * sz ≤ cells.size →
    Instr.fill (fun i => some (i * sz, sz)) cells ((vs.zipIdx k).map fun p => (p.2, p.1)) = some (splice cells (k * sz) (vs.flatMap fun v => v.cells.toList)) := by
  intro vs
  induction vs with
  | nil => intro k cells _ _; simp [Instr.fill, splice]
  | cons v vs ih =>
    intro k cells hv hle
    have hv0 := hv v (by simp)
    have e1 : (k + (vs.length + 1)) * sz = k * sz + (vs.length * sz + sz) := by rw [Nat.add_mul, Nat.add_mul]; omega
    simp only [List.length_cons] at hle
    rw [e1] at hle
    rw [List.zipIdx_cons, List.map_cons, fill_one (off := k * sz) (by simp [hv0]) (by rw [hv0]; omega)]
    have hfl : (vs.flatMap fun v => v.cells.toList).length = vs.length * sz := flat_len vs (fun u hu => hv u (by simp [hu]))
    rw [ih (k + 1) _ (fun u hu => hv u (by simp [hu])) (by
      have : (splice cells (k * sz) v.cells.toList).size = cells.size := by
        unfold splice; simp [hv0]; omega
      rw [this, Nat.add_mul, Nat.add_mul]; omega)]
    congr 1
    unfold splice
    simp only [List.flatMap_cons]
    congr 1
    have hvl : v.cells.toList.length = sz := by simpa using hv0
    have hk : (k + 1) * sz = k * sz + sz := by rw [Nat.add_mul]; omega
    rw [hk]
    have hcl : k * sz + sz ≤ cells.toList.length := by simpa using (by omega : k * sz + sz ≤ cells.size)
    rw [List.take_append_of_le_length (by simp [hvl]; omega)]
    rw [List.take_of_length_le (by simp [hvl]; omega)]
    rw [List.drop_append]
    have h9 : (List.take (k * sz) cells.toList ++ v.cells.toList).length = k * sz + sz := by simp [hv0]; simp at hcl; omega
    rw [h9, List.drop_of_length_le (by rw [h9]; omega)]
    simp only [List.nil_append, List.drop_drop, List.length_append, hvl, hfl, List.append_assoc]
    rw [show k * sz + sz + (k * sz + sz + vs.length * sz - (k * sz + sz)) = k * sz + (sz + vs.length * sz) by omega]
theorem reads_new {t : TypeId} {m c : Nat} {cs : List Value} : Reads (w.alloc (.cells cs.toArray t)) (.slice (some ⟨w.heap.size, 0, none⟩) m c) m cs :=
  .inr ⟨_, _, rfl, fun j u hu => by
    rw [Addr.add_lit]
    unfold World.cell?
    rw [heap_alloc_new]
    simpa using hu⟩
theorem cell_new {t : TypeId} {c : Array Value} {o : Nat} : (w.alloc (.cells c t)).cell? ⟨w.heap.size, o, none⟩ = c[o]? := by
  unfold World.cell?
  rw [heap_alloc_new]
  simp
/-- What a call made of its own, beside what there was. -/
theorem Sat.and {B : Nat} {w0 : World} {F A : HP} (h : Sat B w0 w F) (k : Sat w.heap.size w w' A) : Sat B w0 w' (A • F) := by
  have h' := h.below_ k.below
  obtain ⟨p, a, x⟩ := h.part
  obtain ⟨q, c, y⟩ := k.part
  refine ⟨h'.below, h'.le, Part.join q p, fun b o hb => ?_, q, p, fun b => ?_, rfl, y, x⟩
  · unfold Part.join at hb
    cases hq : q b with
    | some o' =>
      rw [hq] at hb
      simp only [Option.some.injEq] at hb
      subst hb
      exact ⟨Nat.le_trans h.le (c b _ hq).1, (c b _ hq).2⟩
    | none =>
      rw [hq] at hb
      have h1 := a b o hb
      exact ⟨h1.1, (k.below.block b (Array.getElem?_eq_some_iff.1 h1.2).1).trans h1.2⟩
  · cases hq : q b with
    | none => exact .inl rfl
    | some o' =>
      right
      cases hp : p b with
      | none => rfl
      | some o =>
        have h1 := (Array.getElem?_eq_some_iff.1 (a b o hp).2).1
        have h2 := (c b o' hq).1
        omega
theorem run_buildSlice_one {t e : TypeId} {v z : Value} (ht : P.underlying t = some (.slice e)) (hi : (P.info? e).map (fun i => (i.zero, i.size)) = some (some z, v.cells.size)) (hpos : 0 < v.cells.size) (hle : v.cells.size ≤ 1000) :
    (Instr.buildSlice t 1 #[(0, v)]).run P w = .ok (.slice (some ⟨w.heap.size, 0, none⟩) 1 1) (w.alloc (.cells v.cells e)) := by
  obtain ⟨it, hit, hz'⟩ := Option.map_eq_some_iff.1 hi
  simp only [Prod.mk.injEq] at hz'
  obtain ⟨h1, h2⟩ := hz'
  have hf : Instr.fill (fun i => some (i * v.cells.size, v.cells.size)) (Array.map (fun x => z.cells[x % z.cells.size]!) (Array.range v.cells.size)) [(0, v)] = some v.cells := by
    rw [fill_one (off := 0) (by simp) (by simp)]
    rw [splice_all (by simp)]
    simp [Instr.fill]
  unfold Instr.buildSlice
  simp only [Sem.run_bind, run_underlying ht, Result.andThen_ok, sizeOf, typeInfo, run_program, hit, Sem.run_pure, h2, Nat.one_mul]
  rw [if_neg (by omega), if_neg (by omega)]
  simp only [zeroValue, typeInfo, Sem.run_bind, run_program, hit, Sem.run_pure, Result.andThen_ok, h1, hf]
  simp [newRow, newObj, Sem.run]
theorem run_buildSlice_row {t e : TypeId} {vs : List Value} {z : Value} {sz : Nat} {parts : Array (Nat × Value)} {n : Nat} (hn : n = vs.length) (hp : parts.toList = (vs.zipIdx 0).map fun p => (p.2, p.1)) (ht : P.underlying t = some (.slice e)) (hi : (P.info? e).map (fun i => (i.zero, i.size)) = some (some z, sz))
    (hv : ∀ v ∈ vs, v.cells.size = sz) (hpos : 0 < n * sz) (hle : n * sz ≤ 1000) :
    (Instr.buildSlice t n parts).run P w = .ok (.slice (some ⟨w.heap.size, 0, none⟩) n n) (w.alloc (.cells (vs.flatMap fun v => v.cells.toList).toArray e)) := by
  subst hn
  obtain ⟨it, hit, hz'⟩ := Option.map_eq_some_iff.1 hi
  simp only [Prod.mk.injEq] at hz'
  obtain ⟨h1, h2⟩ := hz'
  have hf := fill_row vs 0 (Array.map (fun x => z.cells[x % z.cells.size]!) (Array.range (vs.length * sz))) hv (by simp)
  rw [Nat.zero_mul, splice_all (by rw [flat_len vs hv]; simp)] at hf
  unfold Instr.buildSlice
  simp only [Sem.run_bind, run_underlying ht, Result.andThen_ok, sizeOf, typeInfo, run_program, hit, Sem.run_pure, h2]
  rw [if_neg (by omega), if_neg (by omega)]
  simp only [zeroValue, typeInfo, Sem.run_bind, run_program, hit, Sem.run_pure, Result.andThen_ok, h1, hp, hf]
  simp [newRow, newObj, Sem.run]
theorem wpList_buildSlice_row {ops : Array Oper} {rest : List Oper} {o : Oper} {a : Act} {Q : Exit → Act → World → Prop} (hgd : o.guard = none) {t e : TypeId} {n : Nat} {ps : Array (Nat × Operand)} (ho : o.op = .buildSlice t n ps) (vs : List Value) {z : Value} {sz : Nat} (hn : n = vs.length)
    (hv : (ps.map fun (i, x) => (i, a.eval x)).toList = (vs.zipIdx 0).map fun p => (p.2, p.1))
    (ht : P.underlying t = some (.slice e)) (hi : (P.info? e).map (fun i => (i.zero, i.size)) = some (some z, sz)) (hvs : ∀ v ∈ vs, v.cells.size = sz) (hpos : 0 < n * sz) (hle : n * sz ≤ 1000)
    (h : wpList P ops Q rest (a.put o.dst (.slice (some ⟨w.heap.size, 0, none⟩) n n)) (w.alloc (.cells (vs.flatMap fun v => v.cells.toList).toArray e))) : wpList P ops Q (o :: rest) a w := by
  refine wpList_plain hgd fun K hK => ?_
  unfold Oper.wp execOp
  simp only [ho, Sem.run_bind, run_buildSlice_row hn hv ht hi hvs hpos hle, Result.andThen_ok, Sem.run_pure, Oper.upon]
  exact hK _ _ h
theorem wpList_buildSlice_one {ops : Array Oper} {rest : List Oper} {o : Oper} {a : Act} {Q : Exit → Act → World → Prop} (hgd : o.guard = none) {t e : TypeId} {x : Operand} (ho : o.op = .buildSlice t 1 #[(0, x)]) {v z : Value} {sz : Nat} (hv : a.eval x = v)
    (ht : P.underlying t = some (.slice e)) (hi : (P.info? e).map (fun i => (i.zero, i.size)) = some (some z, sz)) (hvs : v.cells.size = sz) (hpos : 0 < sz) (hle : sz ≤ 1000)
    (h : wpList P ops Q rest (a.put o.dst (.slice (some ⟨w.heap.size, 0, none⟩) 1 1)) (w.alloc (.cells v.cells e))) : wpList P ops Q (o :: rest) a w := by
  subst hvs
  refine wpList_plain hgd fun K hK => ?_
  unfold Oper.wp execOp
  simp only [ho, Sem.run_bind, List.map_toArray, List.map_cons, List.map_nil, hv, run_buildSlice_one ht hi hpos hle, Result.andThen_ok, Sem.run_pure, Oper.upon]
  exact hK _ _ h
variable {K : Act → World → Prop} {C : World → Prop} {a : Act} {i : Nat} {rest : List (Nat × How)} {o : Oper} {l : List Oper}
theorem ord_skip' {k : How} (hi : l[i]? = some o) (hw : Region.wanted o (yielded l.toArray a.tmps) = false)
    (h : ∀ K' : Act → Prop, (∀ a, wpOrd P l.toArray K C rest a w → K' a) → K' (a.put o.dst undef)) : wpOrd P l.toArray K C ((i, k) :: rest) a w :=
  ord_skip hi hw (h _ fun _ h => h)
theorem ord_run {v : Value} (hi : l[i]? = some o) (hw : Region.wanted o (yielded l.toArray a.tmps) = true) (hr : ∀ w', (execOp a.eval o).run P w' = .ok (.value v) w')
    (h : ∀ K' : Act → Prop, (∀ a, wpOrd P l.toArray K C rest a w → K' a) → K' (a.put o.dst v)) : wpOrd P l.toArray K C ((i, .pure) :: rest) a w := by
  have hi' : l.toArray[i]? = some o := by simpa using hi
  simp only [wpOrd, hi', hw, if_true]
  exact ⟨v, hr, h _ fun _ h => h⟩
end
end Go.Proofs.YtepaanpdjadakaaGreatDoor

/-! More on literals: inside a region that draws its order. -/
namespace Go.Proofs.YtepaanpdjadakaaGreatDoor
open Go Go.RowKit

section
variable {P : Program} {w w' : World} {o : Oper} {a : Act} {K : Act → World → Prop} {Q : Exit → Act → World → Prop}
theorem wp_buildSlice_row {t e : TypeId} {n : Nat} {ps : Array (Nat × Operand)} (ho : o.op = .buildSlice t n ps) (vs : List Value) {z : Value} {sz : Nat} (hn : n = vs.length)
    (hv : (ps.map fun (i, x) => (i, a.eval x)).toList = (vs.zipIdx 0).map fun p => (p.2, p.1))
    (ht : P.underlying t = some (.slice e)) (hi : (P.info? e).map (fun i => (i.zero, i.size)) = some (some z, sz)) (hvs : ∀ v ∈ vs, v.cells.size = sz) (hpos : 0 < n * sz) (hle : n * sz ≤ 1000)
    (h : K (a.put o.dst (.slice (some ⟨w.heap.size, 0, none⟩) n n)) (w.alloc (.cells (vs.flatMap fun v => v.cells.toList).toArray e))) : o.wp P a w K Q := by
  unfold Oper.wp execOp
  simp only [ho, Sem.run_bind, run_buildSlice_row hn hv ht hi hvs hpos hle, Result.andThen_ok, Sem.run_pure, Oper.upon]
  exact h
theorem wp_buildSlice_one {t e : TypeId} {x : Operand} (ho : o.op = .buildSlice t 1 #[(0, x)]) {v z : Value} {sz : Nat} (hv : a.eval x = v)
    (ht : P.underlying t = some (.slice e)) (hi : (P.info? e).map (fun i => (i.zero, i.size)) = some (some z, sz)) (hvs : v.cells.size = sz) (hpos : 0 < sz) (hle : sz ≤ 1000)
    (h : K (a.put o.dst (.slice (some ⟨w.heap.size, 0, none⟩) 1 1)) (w.alloc (.cells v.cells e))) : o.wp P a w K Q := by
  subst hvs
  unfold Oper.wp execOp
  simp only [ho, Sem.run_bind, List.map_toArray, List.map_cons, List.map_nil, hv, run_buildSlice_one ht hi hpos hle, Result.andThen_ok, Sem.run_pure, Oper.upon]
  exact h
theorem wp_build_run {t : TypeId} {parts : Array (Nat × Operand)} (ho : o.op = .build t parts) {vs : List (Nat × Value)} {cells : Array Value}
    (hv : (parts.map fun (i, x) => (i, a.eval x)).toList = vs) (hb : P.built t vs = some cells) (h : K (a.put o.dst (.agg cells)) w) : o.wp P a w K Q :=
  wp_build t parts ho (by rw [hv, hb]; rfl) (by rw [hv, hb]; exact h)
end
end Go.Proofs.YtepaanpdjadakaaGreatDoor

/-! Maps from whole numbers to whole numbers, of one's own. -/
namespace Go.Proofs.YtepaanpdjadakaaGreatDoor
open Go Go.RowKit Go.MapKept

/-- A map's entries are those of a function. -/
def MpE (es : Array MapEntry) (f : Int → Option Int) : Prop :=
  (∀ e ∈ es.toList, ∃ k v : Int, e.key = .int .i64 k ∧ e.val = .int .i64 v ∧ f k = some v) ∧ (∀ k v, f k = some v → ∃ e ∈ es.toList, e.key = .int .i64 k)
def upd (f : Int → Option Int) (k : Int) (v : Option Int) : Int → Option Int := fun x => if x = k then v else f x
theorem upd_same (f : Int → Option Int) (k : Int) (v : Option Int) : upd f k v k = v := by simp [upd]
theorem upd_other (f : Int → Option Int) {k x : Int} (v : Option Int) (h : x ≠ k) : upd f k v x = f x := by simp [upd, h]
def mp (b : Nat) (f : Int → Option Int) : HP := fun h => ∃ es clk, h b = some (.map es clk) ∧ Stamped es clk ∧ MpE es f

theorem key_int {k k' : Int} (h : Value.int .i64 k = Value.int .i64 k') : k = k' := by injection h
theorem MpE.keys {es : Array MapEntry} {f : Int → Option Int} (h : MpE es f) {q : IntKind} (hq : q = .i64) : ∀ x ∈ es.toList, IsKey (.int q) x.key := by
  intro x hx
  obtain ⟨k, v, hk, _, _⟩ := h.1 x hx
  rw [hk, hq]; rfl
theorem MpE.push {es : Array MapEntry} {f : Int → Option Int} (h : MpE es f) {k v : Int} {clk : Nat} (hn : ∀ x ∈ es.toList, x.key ≠ .int .i64 k) : MpE (es.push { key := .int .i64 k, val := .int .i64 v, born := clk }) (upd f k (some v)) := by
  constructor
  · intro e he
    simp only [Array.toList_push, List.mem_append, List.mem_singleton] at he
    rcases he with he | rfl
    · obtain ⟨k', v', h1, h2, h3⟩ := h.1 e he
      have : k' ≠ k := by rintro rfl; exact hn e he h1
      exact ⟨k', v', h1, h2, by rw [upd_other _ _ this]; exact h3⟩
    · exact ⟨k, v, rfl, rfl, upd_same _ _ _⟩
  · intro x y hx
    by_cases e : x = k
    · subst e; exact ⟨{ key := .int .i64 x, val := .int .i64 v, born := clk }, by simp, rfl⟩
    · rw [upd_other _ _ e] at hx
      obtain ⟨e', h1, h2⟩ := h.2 x y hx
      exact ⟨e', by rw [Array.toList_push]; exact List.mem_append_left _ h1, h2⟩
theorem key_unique {es : Array MapEntry} {clk : Nat} (hs : Stamped es clk) {i j : Nat} {e e' : MapEntry} (hi : es.toList[i]? = some e) (hj : es.toList[j]? = some e') (hk : e.key = e'.key) : i = j := by
  have h := hs.2.2
  obtain ⟨hil, hi'⟩ := List.getElem?_eq_some_iff.1 hi
  obtain ⟨hjl, hj'⟩ := List.getElem?_eq_some_iff.1 hj
  have := (List.getElem_inj (xs := es.toList.map (·.key)) (i := i) (j := j) (h₀ := by simpa using hil) (h₁ := by simpa using hjl) h).1 (by simp only [List.getElem_map]; rw [hi', hj']; exact hk)
  exact this
theorem MpE.modify {es : Array MapEntry} {clk : Nat} {f : Int → Option Int} (h : MpE es f) (hs : Stamped es clk) {j : Nat} {e : MapEntry} {k v : Int} (hj : es.toList[j]? = some e) (hk : e.key = .int .i64 k) (g : MapEntry → MapEntry) (hgk : (g e).key = .int .i64 k) (hgv : (g e).val = .int .i64 v) :
    MpE (es.modify j g) (upd f k (some v)) := by
  have hget : ∀ i, (es.modify j g).toList[i]? = if j = i then (es.toList[i]?).map g else es.toList[i]? := by
    intro i; simp only [Array.getElem?_toList, Array.getElem?_modify]
  constructor
  · intro x hx
    obtain ⟨i, hi⟩ := List.mem_iff_getElem?.1 hx
    rw [hget] at hi
    by_cases e1 : j = i
    · subst e1
      rw [if_pos rfl, hj] at hi
      simp only [Option.map_some, Option.some.injEq] at hi
      subst hi
      exact ⟨k, v, hgk, hgv, upd_same _ _ _⟩
    · rw [if_neg e1] at hi
      obtain ⟨k', v', h1, h2, h3⟩ := h.1 x (List.mem_of_getElem? hi)
      have : k' ≠ k := by rintro rfl; exact e1 (key_unique hs hj hi (hk.trans h1.symm))
      exact ⟨k', v', h1, h2, by rw [upd_other _ _ this]; exact h3⟩
  · intro x y hx
    by_cases e1 : x = k
    · subst e1
      exact ⟨g e, List.mem_of_getElem? (i := j) (by rw [hget, if_pos rfl, hj]; rfl), hgk⟩
    · rw [upd_other _ _ e1] at hx
      obtain ⟨e', h1, h2⟩ := h.2 x y hx
      obtain ⟨i, hi⟩ := List.mem_iff_getElem?.1 h1
      refine ⟨e', List.mem_of_getElem? (i := i) ?_, h2⟩
      rw [hget, if_neg ?_, hi]
      rintro rfl
      rw [hj] at hi
      cases hi
      exact e1 (key_int (h2.symm.trans hk))
theorem MpE.erase {es : Array MapEntry} {clk : Nat} {f : Int → Option Int} (h : MpE es f) (hs : Stamped es clk) {j : Nat} {e : MapEntry} {k : Int} (hj : es.toList[j]? = some e) (hk : e.key = .int .i64 k) :
    MpE (es.eraseIdxIfInBounds j) (upd f k none) := by
  have hlt : j < es.size := by have := (List.getElem?_eq_some_iff.1 hj).1; simpa using this
  have hl : (es.eraseIdxIfInBounds j).toList = es.toList.eraseIdx j := by
    unfold Array.eraseIdxIfInBounds
    rw [dif_pos hlt, Array.toList_eraseIdx]
  rw [MpE, hl]
  constructor
  · intro x hx
    obtain ⟨i, hij, hi⟩ := List.mem_eraseIdx_iff_getElem?.1 hx
    obtain ⟨k', v', h1, h2, h3⟩ := h.1 x (List.mem_of_getElem? hi)
    have : k' ≠ k := by rintro rfl; exact hij (key_unique hs hi hj (h1.trans hk.symm))
    exact ⟨k', v', h1, h2, by rw [upd_other _ _ this]; exact h3⟩
  · intro x y hx
    by_cases e1 : x = k
    · subst e1; rw [upd_same] at hx; cases hx
    · rw [upd_other _ _ e1] at hx
      obtain ⟨e', h1, h2⟩ := h.2 x y hx
      obtain ⟨i, hi⟩ := List.mem_iff_getElem?.1 h1
      refine ⟨e', List.mem_eraseIdx_iff_getElem?.2 ⟨i, ?_, hi⟩, h2⟩
      rintro rfl
      rw [hj] at hi
      cases hi
      exact e1 (key_int (h2.symm.trans hk))
theorem MpE.same {es : Array MapEntry} {f : Int → Option Int} (h : MpE es f) {k : Int} (hn : ∀ x ∈ es.toList, x.key ≠ .int .i64 k) : upd f k none = f := by
  funext x
  by_cases e : x = k
  · subst e
    rw [upd_same]
    cases hf : f x with
    | none => rfl
    | some v =>
      obtain ⟨e', h1, h2⟩ := h.2 x v hf
      exact absurd h2 (hn e' h1)
  · rw [upd_other _ _ e]

section
variable {B : Nat} {w0 w w' : World} {F : HP} {P : Program} {b : Nat} {f : Int → Option Int} {k v : Int} {mt kt et ty : TypeId}
theorem Sat.mp_open (h : Sat B w0 w (mp b f • F)) : ∃ es clk, Stamped es clk ∧ MpE es f ∧ Sat B w0 w (blk b (.map es clk) • F) := by
  obtain ⟨p, a, g, k, ha, hj, ⟨es, clk, h1, h2, h3⟩, y⟩ := h.part
  exact ⟨es, clk, h2, h3, h.below, h.le, p, a, g, k, ha, hj, h1, y⟩
theorem Sat.mp_shut {es : Array MapEntry} {clk : Nat} (hs : Stamped es clk) (hm : MpE es f) (h : Sat B w0 w (blk b (.map es clk) • F)) : Sat B w0 w (mp b f • F) :=
  h.imp_left fun _ hp => ⟨es, clk, hp, hs, hm⟩
theorem grownBy_setObj (w : World) (b : Nat) (o : Obj) : w.grownBy { w with heap := w.heap.setIfInBounds b o } (some b) :=
  ⟨rfl, rfl, rfl, by simp, fun j _ hne => by
    have : j ≠ b := fun e => hne (by rw [e])
    simp [Ne.symm this]⟩
theorem Sat.setObj {o o' : Obj} (h : Sat B w0 w (blk b o • F)) : Sat B w0 { w with heap := w.heap.setIfInBounds b o' } (blk b o' • F) :=
  h.put (grownBy_setObj w b o') (heap_set h.heap).1

/-- v, ok := m[k]. -/
theorem Sat.run_lookup (h : Sat B w0 w (mp b f • F)) (hm : P.underlying mt = some (.map kt et)) (hk : P.underlying kt = some (.int .i64)) (hz : ∀ w, (zeroValue et).run P w = .ok (.int .i64 0) w) (c : Bool) :
    (Instr.lookup mt (.map (some b)) (.int .i64 k) c).run P w = .ok (if c then .tuple #[.int .i64 ((f k).getD 0), .bool (f k).isSome] else .int .i64 ((f k).getD 0)) w := by
  obtain ⟨es, clk, hs, he, hb⟩ := h.mp_open
  have hb' := hb.heap
  have hkk : IsKey (.int .i64) (.int .i64 k) := rfl
  rcases findNow_spec hkk es.toList 0 (he.keys rfl) with ⟨h1, h2⟩ | ⟨j, e, h1, h2, h3⟩
  · have hf : f k = none := by
      cases hf : f k with
      | none => rfl
      | some v => obtain ⟨e', g1, g2⟩ := he.2 k v hf; exact absurd g2 (h2 e' g1)
    simp [Instr.lookup, run_underlying hm, Go.MapKept.run_getObj_map hb', Go.MapKept.run_checkKey hk hkk, Go.MapKept.run_findKey hk h1, hz, hf, Result.andThen]
  · obtain ⟨k', v', g1, g2, g3⟩ := he.1 e (List.mem_of_getElem? h2)
    rw [h3] at g1
    obtain rfl := key_int g1
    simp [Instr.lookup, run_underlying hm, Go.MapKept.run_getObj_map hb', Go.MapKept.run_checkKey hk hkk, Go.MapKept.run_findKey hk h1, g2, g3, Result.andThen]
/-- m[k] = v. -/
theorem Sat.run_mapUpdate (h : Sat B w0 w (mp b f • F)) (hm : P.underlying mt = some (.map kt et)) (hk : P.underlying kt = some (.int .i64)) :
    ∃ w', (Instr.mapUpdate mt (.map (some b)) (.int .i64 k) (.int .i64 v)).run P w = .ok () w' ∧ Sat B w0 w' (mp b (upd f k (some v)) • F) := by
  obtain ⟨es, clk, hs, he, hb⟩ := h.mp_open
  have hb' := hb.heap
  have hkk : IsKey (.int .i64) (.int .i64 k) := rfl
  rcases findNow_spec hkk es.toList 0 (he.keys rfl) with ⟨h1, h2⟩ | ⟨j, e, h1, h2, h3⟩
  · refine ⟨{ w with heap := w.heap.setIfInBounds b (.map (es.push { key := .int .i64 k, val := .int .i64 v, born := clk }) (clk + 1)) }, ?_, Sat.mp_shut (stamped_push hs h2) (he.push h2) hb.setObj⟩
    simp [Instr.mapUpdate, run_underlying hm, Go.MapKept.run_getObj_map hb', Go.MapKept.run_checkKey hk hkk, Go.MapKept.run_findKey hk h1, Go.MapKept.run_setObj_map _ hb', Result.andThen]
  · have hj : es[j]? = some e := by simpa using h2
    refine ⟨{ w with heap := w.heap.setIfInBounds b (.map (es.modify j fun e => { e with key := .int .i64 k, val := .int .i64 v }) clk) }, ?_, Sat.mp_shut ?_ (he.modify hs h2 h3 _ rfl rfl) hb.setObj⟩
    · simp [Instr.mapUpdate, run_underlying hm, Go.MapKept.run_getObj_map hb', Go.MapKept.run_checkKey hk hkk, Go.MapKept.run_findKey hk h1, hj, h3, Go.MapKept.run_keyThatStays hkk, Go.MapKept.run_setObj_map _ hb', Result.andThen]
    · exact stamped_modify hs _ _ (fun _ _ => rfl) (fun e' _ he' => by rw [hj] at he'; cases he'; exact h3.symm)
/-- The entry of a key that is there, and what is stored into it. -/
theorem Sat.run_mapEntry (h : Sat B w0 w (mp b f • F)) (hm : P.underlying mt = some (.map kt et)) (hk : P.underlying kt = some (.int .i64)) {v0 : Int} (hf : f k = some v0) :
    ∃ (w' : World) (st : Int), (Instr.mapEntry mt (.map (some b)) (.int .i64 k)).run P w = .ok (.tuple #[.int .i64 v0, .int .i64 st]) w' ∧ Sat B w0 w' (mp b f • F) ∧
      ∀ (w1 : World) (B1 : Nat) (w01 : World) (F1 : HP) (v : Int), Sat B1 w01 w1 (blk b (w'.heap[b]?.getD default) • F1) →
        ∃ w2, (Instr.entryStore mt (.map (some b)) (.int .i64 st) (.int .i64 v)).run P w1 = .ok () w2 ∧ Sat B1 w01 w2 (mp b (upd f k (some v)) • F1) := by
  obtain ⟨es, clk, hs, he, hb⟩ := h.mp_open
  have hb' := hb.heap
  have hkk : IsKey (.int .i64) (.int .i64 k) := rfl
  rcases findNow_spec hkk es.toList 0 (he.keys rfl) with ⟨h1, h2⟩ | ⟨j, e, h1, h2, h3⟩
  · obtain ⟨e', g1, g2⟩ := he.2 k v0 hf
    exact absurd g2 (h2 e' g1)
  · obtain ⟨k', v', g1, g2, g3⟩ := he.1 e (List.mem_of_getElem? h2)
    rw [h3] at g1
    obtain rfl := key_int g1
    rw [hf] at g3
    cases g3
    have hj : es[j]? = some e := by simpa using h2
    have hmod : es.modify j (fun e => { e with key := .int .i64 k }) = es := by
      apply Array.ext
      · simp
      · intro i h1 h2'
        rw [Array.getElem_modify]
        split
        · rename_i e1
          subst e1
          have : es[j] = e := by rw [← Option.some_inj, ← Array.getElem?_eq_getElem]; exact hj
          rw [this, ← h3]
        · rfl
    refine ⟨{ w with heap := w.heap.setIfInBounds b (.map es clk) }, e.born, ?_, Sat.mp_shut hs he hb.setObj, ?_⟩
    · simp only [Instr.mapEntry, Sem.run_bind, run_underlying hm, Go.MapKept.run_getObj_map hb', Go.MapKept.run_checkKey hk hkk, Go.MapKept.run_findKey hk h1, Result.andThen]
      simp [hj, h3, Go.MapKept.run_keyThatStays hkk, Go.MapKept.run_setObj_map _ hb', hmod, g2, goInt]
    · intro w1 B1 w01 F1 v hS1
      have e1 : (({ w with heap := w.heap.setIfInBounds b (.map es clk) } : World).heap[b]?).getD default = .map es clk := by
        have := (hb.setObj (o' := .map es clk)).heap
        rw [this]; rfl
      rw [e1] at hS1
      have hidx : es.findIdx? (fun e' => (e'.born : Int) == (e.born : Int)) = some j := by
        rw [Array.findIdx?_eq_some_iff_getElem]
        obtain ⟨hlt, hge⟩ := Array.getElem?_eq_some_iff.1 hj
        refine ⟨hlt, by rw [hge]; simp, fun i hi => ?_⟩
        intro hb2
        have hb3 : (es[i]'(by omega)).born = e.born := Int.ofNat.inj (by simpa using hb2)
        have := (List.getElem_inj (xs := es.toList.map (·.born)) (i := i) (j := j) (h₀ := by simp; omega) (h₁ := by simpa using hlt) hs.2.1).1 (by simp only [List.getElem_map, Array.getElem_toList]; rw [hge]; exact hb3)
        omega
      refine ⟨{ w1 with heap := w1.heap.setIfInBounds b (.map (es.modify j fun e => { e with val := .int .i64 v }) clk) }, ?_, Sat.mp_shut ?_ (he.modify hs h2 h3 _ h3 rfl) hS1.setObj⟩
      · simp only [Instr.entryStore, Sem.run_bind, Go.MapKept.run_getObj_map hS1.heap, Result.andThen]
        simp [asInt, asIntOf, hidx, Go.MapKept.run_setObj_map _ hS1.heap]
      · exact stamped_modify hs _ _ (fun _ _ => rfl) (fun _ _ _ => rfl)
/-- delete(m, k). -/
theorem Sat.run_delete (h : Sat B w0 w (mp b f • F)) (hm : P.underlying mt = some (.map kt et)) (hk : P.underlying kt = some (.int .i64)) :
    ∃ w', (Builtin.delete_ #[mt, kt] ty #[.map (some b), .int .i64 k]).run P w = .ok (.tuple #[]) w' ∧ Sat B w0 w' (mp b (upd f k none) • F) := by
  obtain ⟨es, clk, hs, he, hb⟩ := h.mp_open
  have hb' := hb.heap
  have hkk : IsKey (.int .i64) (.int .i64 k) := rfl
  rcases findNow_spec hkk es.toList 0 (he.keys rfl) with ⟨h1, h2⟩ | ⟨j, e, h1, h2, h3⟩
  · refine ⟨{ w with heap := w.heap.setIfInBounds b (.map es clk) }, ?_, ?_⟩
    · simp [Builtin.delete_, run_underlying hm, Go.MapKept.run_getObj_map hb', Go.MapKept.run_checkKey hk hkk, Go.MapKept.run_findKey hk h1, Go.MapKept.run_setObj_map _ hb', Result.andThen]
    · rw [he.same h2]; exact Sat.mp_shut hs he hb.setObj
  · refine ⟨{ w with heap := w.heap.setIfInBounds b (.map (es.eraseIdxIfInBounds j) clk) }, ?_, Sat.mp_shut (stamped_erase hs _) (he.erase hs h2 h3) hb.setObj⟩
    simp [Builtin.delete_, run_underlying hm, Go.MapKept.run_getObj_map hb', Go.MapKept.run_checkKey hk hkk, Go.MapKept.run_findKey hk h1, Go.MapKept.run_setObj_map _ hb', Result.andThen]
theorem mp_new (h : Sat B w0 w F) : Sat B w0 (w.alloc (.map #[] 0)) (mp w.heap.size (fun _ => none) • F) :=
  Sat.mp_shut (stamped_empty 0) ⟨by simp, fun _ _ h => by cases h⟩ (h.alloc _)
end
end Go.Proofs.YtepaanpdjadakaaGreatDoor

/-! Binary heaps of entries, as lists. -/
namespace Go.Proofs.YtepaanpdjadakaaGreatDoor
/-- An entry: an id, and when it ends. -/
structure Ent where
  id : Int
  due : Int
  deriving DecidableEq, Inhabited

/-- Which of two ends first. -/
def Ent.lt (a b : Ent) : Bool := decide (a.due < b.due) || (decide (a.due = b.due) && decide (a.id < b.id))

theorem Ent.lt_iff (a b : Ent) : a.lt b = true ↔ a.due < b.due ∨ (a.due = b.due ∧ a.id < b.id) := by
  simp [Ent.lt]
theorem Ent.lt_false (a b : Ent) : a.lt b = false ↔ ¬ (a.due < b.due ∨ (a.due = b.due ∧ a.id < b.id)) := by
  rw [← Ent.lt_iff]; simp
theorem Ent.lt_irrefl (a : Ent) : a.lt a = false := by rw [Ent.lt_false]; omega
theorem Ent.le_trans {a b c : Ent} (h : b.lt a = false) (k : c.lt b = false) : c.lt a = false := by
  rw [Ent.lt_false] at *; omega
theorem Ent.le_of_lt {a b : Ent} (h : a.lt b = true) : b.lt a = false := by
  rw [Ent.lt_iff] at h; rw [Ent.lt_false]; omega
theorem Ent.eq_of_le {a b : Ent} (h : a.lt b = false) (k : b.lt a = false) : a = b := by
  rw [Ent.lt_false] at *
  cases a; cases b; simp at *; omega

namespace Hp
def g (l : List Ent) (i : Nat) : Ent := l.getD i default
def swap (l : List Ent) (i j : Nat) : List Ent := (l.set i (g l j)).set j (g l i)

theorem swap_length (l : List Ent) (i j : Nat) : (swap l i j).length = l.length := by simp [swap]
theorem g_set (l : List Ent) (i k : Nat) (x : Ent) (h : i < l.length) : g (l.set i x) k = if k = i then x else g l k := by
  unfold g
  simp only [List.getD_eq_getElem?_getD, List.getElem?_set]
  by_cases e : i = k
  · subst e; simp [h]
  · simp [e, Ne.symm e]
theorem g_swap (l : List Ent) (i j k : Nat) (hi : i < l.length) (hj : j < l.length) :
    g (swap l i j) k = if k = j then g l i else if k = i then g l j else g l k := by
  unfold swap
  rw [g_set _ _ _ _ (by simpa using hj), g_set _ _ _ _ hi]

theorem count_set (l : List Ent) (i : Nat) (x y : Ent) (h : i < l.length) : (l.set i x).count y + (if g l i = y then 1 else 0) = l.count y + (if x = y then 1 else 0) := by
  induction l generalizing i with
  | nil => simp at h
  | cons a l ih =>
    cases i with
    | zero => simp [g, List.count_cons]; omega
    | succ i =>
      have := ih i (by simpa using h)
      simp [g, List.count_cons] at *
      omega
theorem swap_perm (l : List Ent) (i j : Nat) (hi : i < l.length) (hj : j < l.length) : (swap l i j).Perm l := by
  rw [List.perm_iff_count]
  intro y
  have h1 := count_set l i (g l j) y hi
  have h2 := count_set (l.set i (g l j)) j (g l i) y (by simpa using hj)
  rw [g_set _ _ _ _ hi] at h2
  unfold swap
  by_cases e : j = i
  · subst e; simp only [if_true] at h2; omega
  · simp only [if_neg e] at h2; omega
theorem swap_self (l : List Ent) (i : Nat) (hi : i < l.length) : swap l i i = l := by
  apply List.ext_getElem
  · simp [swap]
  · intro k h1 h2
    have := g_swap l i i k hi hi
    simp only [g, List.getD_eq_getElem?_getD, List.getElem?_eq_getElem h1, List.getElem?_eq_getElem h2, Option.getD_some] at this
    rw [this]
    by_cases e : k = i
    · subst e; simp [h2]
    · simp [e]

def par (k : Nat) : Nat := (k - 1) / 2
/-- Entry k does not end ahead of its parent. -/
def ok (l : List Ent) (k : Nat) : Prop := (g l k).lt (g l (par k)) = false
/-- The first n are a heap. -/
def Is (l : List Ent) (n : Nat) : Prop := ∀ k, 0 < k → k < n → ok l k

theorem Is.min {l : List Ent} {n : Nat} (h : Is l n) : ∀ k, k < n → (g l k).lt (g l 0) = false := by
  intro k
  induction k using Nat.strongRecOn with
  | _ k ih =>
    intro hk
    rcases Nat.eq_zero_or_pos k with e | e
    · subst e; exact Ent.lt_irrefl _
    · exact Ent.le_trans (ih (par k) (by unfold par; omega) (by unfold par; omega)) (h k e hk)

/-! up -/
def up : Nat → List Ent → Nat → List Ent
  | 0, l, _ => l
  | f + 1, l, j => if j = 0 then l else if (g l j).lt (g l (par j)) then up f (swap l (par j) j) (par j) else l

theorem up_spec (n : Nat) : ∀ (f : Nat) (l : List Ent) (j : Nat), j ≤ f → j < n → n ≤ l.length →
    (∀ k, 0 < k → k < n → k ≠ j → ok l k) →
    (∀ c, 0 < c → c < n → par c = j → 0 < j → (g l c).lt (g l (par j)) = false) →
    Is (up f l j) n ∧ (up f l j).Perm l ∧ (∀ k, n ≤ k → g (up f l j) k = g l k) := by
  intro f
  induction f with
  | zero =>
    intro l j hj hn hl h1 _
    refine ⟨fun k hk hkn => h1 k hk hkn (by omega), List.Perm.refl _, fun _ _ => rfl⟩
  | succ f ih =>
    intro l j hj hn hl h1 h2
    unfold up
    by_cases e : j = 0
    · simp only [if_pos e]
      exact ⟨fun k hk hkn => h1 k hk hkn (by omega), List.Perm.refl _, fun _ _ => by trivial⟩
    · simp only [e, if_false]
      have hp : par j < j := by unfold par; omega
      split
      · rename_i hlt
        have hs := g_swap l (par j) j
        have := ih (swap l (par j) j) (par j) (by omega) (by omega) (by rw [swap_length]; omega) ?_ ?_
        · obtain ⟨a, b, c⟩ := this
          refine ⟨a, b.trans (swap_perm l _ _ (by omega) (by omega)), fun k hk => ?_⟩
          rw [c k hk, hs k (by omega) (by omega), if_neg (by omega), if_neg (by omega)]
        · intro k hk hkn hne
          unfold ok
          rw [hs k (by omega) (by omega), hs (par k) (by omega) (by omega)]
          by_cases e1 : k = j
          · subst e1; simp only [if_true]
            rw [if_neg (by omega)]
            exact Ent.le_of_lt hlt
          · rw [if_neg e1, if_neg hne]
            by_cases e2 : par k = j
            · rw [if_pos e2]; exact h2 k hk hkn e2 (by omega)
            · rw [if_neg e2]
              by_cases e3 : par k = par j
              · rw [if_pos e3]
                have := h1 k hk hkn e1
                unfold ok at this
                rw [e3] at this
                exact Ent.le_trans (Ent.le_of_lt hlt) this
              · rw [if_neg e3]; exact h1 k hk hkn e1
        · intro c hc hcn hpc hpj
          rw [hs c (by omega) (by omega), hs (par (par j)) (by omega) (by omega)]
          have hpp : par (par j) < par j := by generalize par j = m at *; unfold par; omega
          rw [if_neg (show ¬ par (par j) = j by omega), if_neg (show ¬ par (par j) = par j by omega)]
          have hok := h1 (par j) (by omega) (by omega) (by omega)
          unfold ok at hok
          by_cases e1 : c = j
          · rw [if_pos e1]; exact hok
          · rw [if_neg e1]
            by_cases e2 : c = par j
            · exfalso; subst e2; omega
            · rw [if_neg e2]
              have := h1 c hc hcn e1
              unfold ok at this
              rw [hpc] at this
              exact Ent.le_trans hok this
      · rename_i hlt
        refine ⟨fun k hk hkn => ?_, List.Perm.refl _, fun _ _ => rfl⟩
        by_cases e1 : k = j
        · subst e1; unfold ok; simpa using hlt
        · exact h1 k hk hkn e1

/-! down -/
def child (l : List Ent) (i n : Nat) : Nat := if 2 * i + 2 < n ∧ (g l (2 * i + 2)).lt (g l (2 * i + 1)) = true then 2 * i + 2 else 2 * i + 1
def down : Nat → List Ent → Nat → Nat → List Ent × Nat
  | 0, l, i, _ => (l, i)
  | f + 1, l, i, n =>
    if n ≤ 2 * i + 1 then (l, i)
    else if (g l (child l i n)).lt (g l i) then down f (swap l i (child l i n)) (child l i n) n else (l, i)

theorem child_cases (l : List Ent) (i n : Nat) (h : 2 * i + 1 < n) : (child l i n = 2 * i + 1 ∨ child l i n = 2 * i + 2) ∧ child l i n < n ∧ par (child l i n) = i ∧ i < child l i n := by
  unfold child
  split
  · exact ⟨.inr rfl, by omega, by unfold par; omega, by omega⟩
  · exact ⟨.inl rfl, by omega, by unfold par; omega, by omega⟩
theorem child_least (l : List Ent) (i n c : Nat) (hc : 0 < c) (hcn : c < n) (h : par c = i) : (g l c).lt (g l (child l i n)) = false := by
  have : c = 2 * i + 1 ∨ c = 2 * i + 2 := by unfold par at h; omega
  unfold child
  rcases this with e | e
  · subst e
    split
    · rename_i h2; exact Ent.le_of_lt h2.2
    · exact Ent.lt_irrefl _
  · subst e
    split
    · exact Ent.lt_irrefl _
    · rename_i h2
      cases h3 : (g l (2 * i + 2)).lt (g l (2 * i + 1)) with
      | false => rfl
      | true => exact absurd ⟨hcn, h3⟩ h2

theorem down_spec (n : Nat) : ∀ (f : Nat) (l : List Ent) (i : Nat), n ≤ i + f → i < n → n ≤ l.length →
    (∀ k, 0 < k → k < n → k ≠ i → par k ≠ i → ok l k) →
    (∀ c, 0 < c → c < n → par c = i → 0 < i → (g l c).lt (g l (par i)) = false) →
    (∀ k, 0 < k → k < n → k ≠ i → ok (down f l i n).1 k) ∧
    ((down f l i n).2 ≠ i → 0 < i → ok (down f l i n).1 i) ∧
    ((down f l i n).2 = i → (down f l i n).1 = l) ∧
    (0 < i → ok l i → ok (down f l i n).1 i) ∧
    i ≤ (down f l i n).2 ∧
    (down f l i n).1.Perm l ∧ (∀ k, n ≤ k → g (down f l i n).1 k = g l k) := by
  intro f
  induction f with
  | zero => intro l i h hi; omega
  | succ f ih =>
    intro l i hf hi hl h1 h2
    unfold down
    by_cases e : n ≤ 2 * i + 1
    · rw [if_pos e]
      exact ⟨fun k hk hkn hne => h1 k hk hkn hne (by unfold par; omega), fun h => absurd rfl h, fun _ => rfl, fun _ h => h, Nat.le_refl _, List.Perm.refl _, fun _ _ => rfl⟩
    · rw [if_neg e]
      obtain ⟨_, hcn, hcp, hic⟩ := child_cases l i n (by omega)
      have hleast := child_least l i n
      generalize child l i n = c at *
      split
      · rename_i hlt
        have hs := g_swap l i c
        have hsw1 : ∀ k, 0 < k → k < n → k ≠ c → par k ≠ c → ok (swap l i c) k := by
          intro k hk hkn hne hpk
          unfold ok
          rw [hs k (by omega) (by omega), hs (par k) (by omega) (by omega), if_neg hne, if_neg hpk]
          by_cases e1 : k = i
          · subst e1
            rw [if_pos rfl]
            have hpi : par k ≠ k := by unfold par; omega
            rw [if_neg hpi]
            exact h2 c (by omega) hcn hcp hk
          · rw [if_neg e1]
            by_cases e2 : par k = i
            · rw [if_pos e2]; exact hleast k hk hkn e2
            · rw [if_neg e2]; exact h1 k hk hkn e1 e2
        have hokc : ok (swap l i c) c := by
          unfold ok
          rw [hs c (by omega) (by omega), hs (par c) (by omega) (by omega), if_pos rfl, hcp, if_neg (by omega), if_pos rfl]
          exact Ent.le_of_lt hlt
        obtain ⟨a1, a2, a3, a4, a5, a6, a7⟩ := ih (swap l i c) c (by omega) hcn (by rw [swap_length]; omega) hsw1 (by
          intro d hd hdn hpd _
          rw [hs d (by omega) (by omega), hs (par c) (by omega) (by omega), hcp]
          have : d ≠ c := by unfold par at hpd; omega
          have : d ≠ i := by unfold par at hpd; omega
          rw [if_neg ‹d ≠ c›, if_neg ‹d ≠ i›, if_neg (show ¬ i = c by omega), if_pos rfl]
          have := h1 d hd hdn ‹_› (by omega)
          unfold ok at this
          rwa [hpd] at this)
        have hall : ∀ k, 0 < k → k < n → ok (down f (swap l i c) c n).1 k := by
          intro k hk hkn
          by_cases e1 : k = c
          · subst e1
            exact a4 (by omega) hokc
          · exact a1 k hk hkn e1
        refine ⟨fun k hk hkn _ => hall k hk hkn, fun _ h0 => hall i h0 hi, fun h => absurd h (by omega), fun h0 _ => hall i h0 hi, by omega, a6.trans (swap_perm l _ _ (by omega) (by omega)), fun k hk => ?_⟩
        rw [a7 k hk, hs k (by omega) (by omega), if_neg (by omega), if_neg (by omega)]
      · rename_i hlt
        refine ⟨fun k hk hkn hne => ?_, fun h => absurd rfl h, fun _ => rfl, fun _ h => h, Nat.le_refl _, List.Perm.refl _, fun _ _ => rfl⟩
        by_cases e1 : par k = i
        · unfold ok
          rw [e1]
          exact Ent.le_trans (by simpa using hlt) (hleast k hk hkn e1)
        · exact h1 k hk hkn hne e1

/-- heap.Fix, and what heap.Remove does ahead of its Pop. -/
def fix (l : List Ent) (i n : Nat) : List Ent :=
  if (down n l i n).2 > i then (down n l i n).1 else up n (down n l i n).1 i

theorem fix_spec (n : Nat) (l : List Ent) (i : Nat) (hi : i < n) (hl : n ≤ l.length)
    (h1 : ∀ k, 0 < k → k < n → k ≠ i → par k ≠ i → ok l k)
    (h2 : ∀ c, 0 < c → c < n → par c = i → 0 < i → (g l c).lt (g l (par i)) = false) :
    Is (fix l i n) n ∧ (fix l i n).Perm l ∧ (∀ k, n ≤ k → g (fix l i n) k = g l k) := by
  obtain ⟨a1, a2, a3, a4, a5, a6, a7⟩ := down_spec n n l i (by omega) hi hl h1 h2
  unfold fix
  split
  · rename_i h
    refine ⟨fun k hk hkn => ?_, a6, a7⟩
    by_cases e : k = i
    · subst e; exact a2 (by omega) hk
    · exact a1 k hk hkn e
  · rename_i h
    have e : (down n l i n).1 = l := a3 (by omega)
    rw [e] at a1 ⊢
    exact up_spec n n l i (by omega) hi hl a1 h2

/-- One entry of a heap is another one now. -/
theorem Is.hole {l : List Ent} {n : Nat} (h : Is l n) {i : Nat} (hi : i < n) (hl : n ≤ l.length) (x : Ent) :
    (∀ k, 0 < k → k < n → k ≠ i → par k ≠ i → ok (l.set i x) k) ∧
    (∀ c, 0 < c → c < n → par c = i → 0 < i → (g (l.set i x) c).lt (g (l.set i x) (par i)) = false) := by
  constructor
  · intro k hk hkn h1 h2
    unfold ok
    rw [g_set _ _ _ _ (by omega), g_set _ _ _ _ (by omega), if_neg h1, if_neg h2]
    exact h k hk hkn
  · intro c hc hcn hp h0
    have : c ≠ i := by unfold par at hp; omega
    have : par i ≠ i := by unfold par; omega
    rw [g_set _ _ _ _ (by omega), g_set _ _ _ _ (by omega), if_neg ‹c ≠ i›, if_neg ‹par i ≠ i›]
    have a := h c hc hcn
    have b := h i h0 hi
    unfold ok at a b
    rw [hp] at a
    exact Ent.le_trans b a

theorem Is.fix_set {l : List Ent} {n : Nat} (h : Is l n) {i : Nat} (hi : i < n) (hl : n ≤ l.length) (x : Ent) :
    Is (fix (l.set i x) i n) n ∧ (fix (l.set i x) i n).Perm (l.set i x) ∧ (∀ k, n ≤ k → g (fix (l.set i x) i n) k = g (l.set i x) k) :=
  fix_spec n _ i hi (by simpa using hl) (h.hole hi hl x).1 (h.hole hi hl x).2

/-- heap.Push: one more at the end, then up. -/
theorem Is.push {l : List Ent} (h : Is l l.length) (x : Ent) :
    Is (up l.length (l ++ [x]) l.length) (l.length + 1) ∧ (up l.length (l ++ [x]) l.length).Perm (l ++ [x]) := by
  have hg : ∀ k, k < l.length → g (l ++ [x]) k = g l k := by
    intro k hk; simp [g, List.getD_eq_getElem?_getD, List.getElem?_append_left hk]
  obtain ⟨a, b, _⟩ := up_spec (l.length + 1) l.length (l ++ [x]) l.length (by omega) (by omega) (by simp)
    (by
      intro k hk hkn hne
      unfold ok
      rw [hg k (by omega), hg (par k) (by unfold par; omega)]
      exact h k hk (by omega))
    (by
      intro c hc hcn hp h0
      unfold par at hp; omega)
  exact ⟨a, b⟩

theorem Is.mono {l : List Ent} {n m : Nat} (h : Is l n) (hm : m ≤ n) : Is l m := fun k hk hkm => h k hk (by omega)
theorem Is.congr {l l' : List Ent} {n : Nat} (h : Is l n) (e : ∀ k, k < n → g l' k = g l k) : Is l' n := by
  intro k hk hkn
  unfold ok
  rw [e k hkn, e (par k) (by unfold par; omega)]
  exact h k hk hkn

/-- heap.Pop, and heap.Remove. -/
def pop (l : List Ent) : List Ent := (down (l.length - 1) (swap l 0 (l.length - 1)) 0 (l.length - 1)).1.dropLast
def remove (l : List Ent) (i : Nat) : List Ent :=
  (if l.length - 1 = i then l else fix (swap l i (l.length - 1)) i (l.length - 1)).dropLast

theorem g_dropLast (l : List Ent) (k : Nat) (h : k < l.length - 1) : g l.dropLast k = g l k := by
  unfold g
  simp only [List.getD_eq_getElem?_getD, List.getElem?_dropLast, if_pos h]
theorem dropLast_perm (l : List Ent) (h : 0 < l.length) : (g l (l.length - 1) :: l.dropLast).Perm l := by
  have e : l = l.dropLast ++ [g l (l.length - 1)] := by
    have hne : l ≠ [] := by rintro rfl; simp at h
    have := List.dropLast_concat_getLast hne
    rw [List.getLast_eq_getElem] at this
    have h2 : g l (l.length - 1) = l[l.length - 1] := by
      simp [g, List.getD_eq_getElem?_getD, show l.length - 1 < l.length by omega]
    rw [h2]; exact this.symm
  have hp : (g l (l.length - 1) :: l.dropLast).Perm (l.dropLast ++ [g l (l.length - 1)]) := by
    have := List.perm_append_comm (l₁ := [g l (l.length - 1)]) (l₂ := l.dropLast)
    simpa using this
  rw [← e] at hp
  exact hp

theorem swap_last_hole {l : List Ent} (h : Is l l.length) {i : Nat} (hi : i < l.length - 1) :
    (∀ k, 0 < k → k < l.length - 1 → k ≠ i → par k ≠ i → ok (swap l i (l.length - 1)) k) ∧
    (∀ c, 0 < c → c < l.length - 1 → par c = i → 0 < i → (g (swap l i (l.length - 1)) c).lt (g (swap l i (l.length - 1)) (par i)) = false) := by
  have hs := fun k => g_swap l i (l.length - 1) k (by omega) (by omega)
  have e : ∀ k, k < l.length - 1 → g (swap l i (l.length - 1)) k = g (l.set i (g l (l.length - 1))) k := by
    intro k hk
    rw [hs, g_set _ _ _ _ (by omega), if_neg (by omega)]
  obtain ⟨a, b⟩ := (h.mono (m := l.length - 1) (by omega)).hole hi (by omega) (g l (l.length - 1))
  constructor
  · intro k hk hkn h1 h2
    unfold ok
    rw [e k hkn, e (par k) (by unfold par; omega)]
    exact a k hk hkn h1 h2
  · intro c hc hcn hp h0
    rw [e c hcn, e (par i) (by unfold par; omega)]
    exact b c hc hcn hp h0

theorem Is.remove {l : List Ent} (h : Is l l.length) {i : Nat} (hi : i < l.length) :
    Is (remove l i) (l.length - 1) ∧ (remove l i).length = l.length - 1 ∧ (g l i :: remove l i).Perm l := by
  unfold Hp.remove
  by_cases e : l.length - 1 = i
  · rw [if_pos e]
    refine ⟨(h.mono (m := l.length - 1) (by omega)).congr fun k hk => g_dropLast l k hk, by simp, ?_⟩
    have := dropLast_perm l (by omega)
    rwa [e] at this
  · rw [if_neg e]
    obtain ⟨a, b⟩ := swap_last_hole h (i := i) (by omega)
    obtain ⟨c, d, f⟩ := fix_spec (l.length - 1) (swap l i (l.length - 1)) i (by omega) (by rw [swap_length]; omega) a b
    have hlen : (fix (swap l i (l.length - 1)) i (l.length - 1)).length = l.length := by rw [d.length_eq, swap_length]
    refine ⟨c.congr fun k hk => g_dropLast _ k (by omega), by simp [hlen], ?_⟩
    have := dropLast_perm (fix (swap l i (l.length - 1)) i (l.length - 1)) (by omega)
    rw [hlen, f (l.length - 1) (Nat.le_refl _), g_swap l i (l.length - 1) _ (by omega) (by omega), if_pos rfl] at this
    exact this.trans (d.trans (swap_perm l _ _ (by omega) (by omega)))

theorem Is.pop {l : List Ent} (h : Is l l.length) (hl : 0 < l.length) :
    Is (pop l) (l.length - 1) ∧ (pop l).length = l.length - 1 ∧ (g l 0 :: pop l).Perm l := by
  unfold Hp.pop
  by_cases e : l.length = 1
  · have hd : down (l.length - 1) (swap l 0 (l.length - 1)) 0 (l.length - 1) = (l, 0) := by
      rw [e]; simp [down, swap_self l 0 hl]
    rw [hd]
    refine ⟨fun k hk hkn => by omega, by simp, ?_⟩
    have := dropLast_perm l hl
    rwa [show l.length - 1 = 0 by omega] at this
  · obtain ⟨a, b⟩ := swap_last_hole h (i := 0) (by omega)
    obtain ⟨a1, a2, a3, a4, a5, a6, a7⟩ := down_spec (l.length - 1) (l.length - 1) (swap l 0 (l.length - 1)) 0 (by omega) (by omega) (by rw [swap_length]; omega) a b
    have hlen : (down (l.length - 1) (swap l 0 (l.length - 1)) 0 (l.length - 1)).1.length = l.length := by rw [a6.length_eq, swap_length]
    refine ⟨(show Is (down (l.length - 1) (swap l 0 (l.length - 1)) 0 (l.length - 1)).1 (l.length - 1) from fun k hk hkn => a1 k hk hkn (by omega)).congr fun k hk => g_dropLast _ k (by omega), by simp [hlen], ?_⟩
    have := dropLast_perm (down (l.length - 1) (swap l 0 (l.length - 1)) 0 (l.length - 1)).1 (by omega)
    rw [hlen, a7 (l.length - 1) (Nat.le_refl _), g_swap l 0 (l.length - 1) _ (by omega) (by omega), if_pos rfl] at this
    exact this.trans (a6.trans (swap_perm l _ _ (by omega) (by omega)))

theorem down_pop_last {l : List Ent} (h : Is l l.length) (hl : 1 < l.length) :
    (down (l.length - 1) (swap l 0 (l.length - 1)) 0 (l.length - 1)).1.length = l.length ∧
    g (down (l.length - 1) (swap l 0 (l.length - 1)) 0 (l.length - 1)).1 (l.length - 1) = g l 0 := by
  obtain ⟨a, b⟩ := swap_last_hole h (i := 0) (by omega)
  obtain ⟨a1, a2, a3, a4, a5, a6, a7⟩ := down_spec (l.length - 1) (l.length - 1) (swap l 0 (l.length - 1)) 0 (by omega) (by omega) (by rw [swap_length]; omega) a b
  refine ⟨by rw [a6.length_eq, swap_length], ?_⟩
  rw [a7 (l.length - 1) (Nat.le_refl _), g_swap l 0 (l.length - 1) _ (by omega) (by omega), if_pos rfl]
end Hp
end Go.Proofs.YtepaanpdjadakaaGreatDoor
