import Derived.WalkKit
import Derived.Below
import Derived.Deep.Draws
import Derived.Test.YtdcekoocnoackaaGreatDoorPart01
import Derived.Shelf.Strings.SlTrimAscii
import Derived.KernelRfl
import Derived.Lib.Hide
import Derived.Laws.DeepStrings4
import Derived.Maps.AppendAt
import Derived.OwnWalk
import Derived.Laws.OwnMore

namespace Go.Proofs.YtdcekoocnoackaaGreatDoor
open Go Go.RowKit

/-- A part of the heap. -/
abbrev Part := Nat → Option Obj
def Part.apart (g h : Part) : Prop := ∀ b, g b = none ∨ h b = none
def Part.join (g h : Part) : Part := fun b => match g b with | some o => some o | none => h b

/-- What holds of a part of the heap. -/
def HP := Part → Prop

def blk (b : Nat) (o : Obj) : HP := fun h => h b = some o
def emp : HP := fun _ => True
def star (A B : HP) : HP := fun h => ∃ g k, Part.apart g k ∧ h = Part.join g k ∧ A g ∧ B k
def hex {α : Type} (A : α → HP) : HP := fun h => ∃ x, A x h
def lift (p : Prop) (A : HP) : HP := fun h => p ∧ A h
instance : HSMul HP HP HP := ⟨star⟩

theorem join_comm {g k : Part} (h : Part.apart g k) : Part.join g k = Part.join k g := by
  funext b
  unfold Part.join
  rcases h b with e | e <;> rw [e]
  · cases k b <;> rfl
  · cases g b <;> rfl
theorem star_comm (A B : HP) : A • B = B • A := by
  funext h
  apply propext
  constructor
  · rintro ⟨g, k, ha, rfl, x, y⟩
    exact ⟨k, g, fun b => (ha b).symm, join_comm ha, y, x⟩
  · rintro ⟨g, k, ha, rfl, x, y⟩
    exact ⟨k, g, fun b => (ha b).symm, join_comm ha, y, x⟩
theorem join_none {g k : Part} {b : Nat} : Part.join g k b = none ↔ g b = none ∧ k b = none := by
  unfold Part.join
  cases g b <;> simp
theorem join_assoc (a b c : Part) : Part.join (Part.join a b) c = Part.join a (Part.join b c) := by
  funext x
  unfold Part.join
  cases a x <;> simp
theorem star_assoc (A B C : HP) : (A • B) • C = A • B • C := by
  funext h
  apply propext
  constructor
  · rintro ⟨g, k, ha, rfl, ⟨g1, g2, hb, rfl, x, y⟩, z⟩
    refine ⟨g1, Part.join g2 k, fun b => ?_, (join_assoc _ _ _), x, g2, k, fun b => ?_, rfl, y, z⟩
    · rcases ha b with e | e
      · exact .inl (join_none.1 e).1
      · rcases hb b with e' | e'
        · exact .inl e'
        · exact .inr (join_none.2 ⟨e', e⟩)
    · rcases ha b with e | e
      · exact .inl (join_none.1 e).2
      · exact .inr e
  · rintro ⟨g, k, ha, rfl, x, g1, g2, hb, rfl, y, z⟩
    refine ⟨Part.join g g1, g2, fun b => ?_, (join_assoc _ _ _).symm, ⟨g, g1, fun b => ?_, rfl, x, y⟩, z⟩
    · rcases hb b with e | e
      · rcases ha b with e' | e'
        · exact .inl (join_none.2 ⟨e', e⟩)
        · exact .inr (join_none.1 e').2
      · exact .inr e
    · rcases ha b with e | e
      · exact .inl e
      · exact .inr (join_none.1 e).1
instance : Std.Commutative (HSMul.hSMul : HP → HP → HP) := ⟨star_comm⟩
instance : Std.Associative (HSMul.hSMul : HP → HP → HP) := ⟨star_assoc⟩
theorem star_left_comm (A B C : HP) : A • B • C = B • A • C := by
  rw [← star_assoc, star_comm A B, star_assoc]
theorem hex_star {α : Type} (A : α → HP) (F : HP) : hex A • F = hex fun x => A x • F := by
  funext h
  apply propext
  constructor
  · rintro ⟨g, k, ha, e, ⟨x, y⟩, z⟩; exact ⟨x, g, k, ha, e, y, z⟩
  · rintro ⟨x, g, k, ha, e, y, z⟩; exact ⟨g, k, ha, e, ⟨x, y⟩, z⟩
theorem lift_star (p : Prop) (A F : HP) : lift p A • F = lift p (A • F) := by
  funext h
  apply propext
  constructor
  · rintro ⟨g, k, ha, e, ⟨x, y⟩, z⟩; exact ⟨x, g, k, ha, e, y, z⟩
  · rintro ⟨x, g, k, ha, e, y, z⟩; exact ⟨g, k, ha, e, ⟨x, y⟩, z⟩

/-- In the world w, which is w0 below B, some blocks from B on are as A tells. -/
structure Sat (B : Nat) (w0 w : World) (A : HP) : Prop where
  below : Below B w0 w
  le : B ≤ w.heap.size
  part : ∃ h : Part, (∀ b o, h b = some o → B ≤ b ∧ w.heap[b]? = some o) ∧ A h

section
variable {B : Nat} {w0 w : World} {A F : HP}
theorem Sat.to {A' : HP} (h : Sat B w0 w A) (e : A = A') : Sat B w0 w A' := e ▸ h
theorem Sat.imp {A' : HP} (h : Sat B w0 w A) (i : ∀ p, A p → A' p) : Sat B w0 w A' :=
  let ⟨p, a, b⟩ := h.part; ⟨h.below, h.le, p, a, i p b⟩
theorem star_imp {A A' F F' : HP} (i : ∀ p, A p → A' p) (j : ∀ p, F p → F' p) : ∀ p, (A • F) p → (A' • F') p := by
  rintro p ⟨g, k, ha, e, x, y⟩; exact ⟨g, k, ha, e, i _ x, j _ y⟩
theorem Sat.imp_left {A' : HP} (h : Sat B w0 w (A • F)) (i : ∀ p, A p → A' p) : Sat B w0 w (A' • F) := h.imp (star_imp i fun _ x => x)
theorem Sat.ex {α : Type} {A : α → HP} (h : Sat B w0 w (hex A)) : ∃ x, Sat B w0 w (A x) :=
  let ⟨p, a, x, b⟩ := h.part; ⟨x, h.below, h.le, p, a, b⟩
theorem Sat.ex_mk {α : Type} {A : α → HP} (x : α) (h : Sat B w0 w (A x)) : Sat B w0 w (hex A) :=
  let ⟨p, a, b⟩ := h.part; ⟨h.below, h.le, p, a, x, b⟩
theorem Sat.lift {p : Prop} (h : Sat B w0 w (lift p A)) : p ∧ Sat B w0 w A :=
  let ⟨q, a, x, b⟩ := h.part; ⟨x, h.below, h.le, q, a, b⟩
theorem Sat.lift_mk {p : Prop} (x : p) (h : Sat B w0 w A) : Sat B w0 w (YtdcekoocnoackaaGreatDoor.lift p A) :=
  let ⟨q, a, b⟩ := h.part; ⟨h.below, h.le, q, a, x, b⟩
theorem Sat.drop (h : Sat B w0 w (A • F)) : Sat B w0 w F := by
  obtain ⟨p, a, g, k, ha, e, x, y⟩ := h.part
  refine ⟨h.below, h.le, k, fun b o hb => a b o ?_, y⟩
  rw [e]
  unfold Part.join
  rcases ha b with e' | e'
  · rw [e']; exact hb
  · rw [e'] at hb; cases hb
theorem Sat.left (h : Sat B w0 w (A • F)) : Sat B w0 w A := (h.to (star_comm A F)).drop
theorem Sat.start (w : World) : Sat w.heap.size w w emp := ⟨Below.refl _ _, Nat.le_refl _, fun _ => none, by simp, trivial⟩
/-- What a block holds. -/
theorem Sat.heap {b : Nat} {o : Obj} (h : Sat B w0 w (blk b o • F)) : w.heap[b]? = some o := by
  obtain ⟨p, a, x⟩ := h.left.part
  exact (a b o x).2
theorem Sat.ge {b : Nat} {o : Obj} (h : Sat B w0 w (blk b o • F)) : B ≤ b := by
  obtain ⟨p, a, x⟩ := h.left.part
  exact (a b o x).1
theorem Sat.lt {b : Nat} {o : Obj} (h : Sat B w0 w (blk b o • F)) : b < w.heap.size := (Array.getElem?_eq_some_iff.1 h.heap).1
theorem Sat.ne {b c : Nat} {o o' : Obj} (h : Sat B w0 w (blk b o • blk c o' • F)) : b ≠ c := by
  obtain ⟨p, a, g, k, ha, e, x, g1, k1, ha1, e1, y, z⟩ := h.part
  rintro rfl
  have x' : g b = some o := x
  have y' : g1 b = some o' := y
  rcases ha b with h1 | h1
  · rw [h1] at x'; cases x'
  · rw [e1] at h1
    rw [(join_none.1 h1).1] at y'; cases y'
/-- Nothing that was there has turned. -/
theorem Sat.below_ {w' : World} (h : Sat B w0 w A) (k : Below w.heap.size w w') : Sat B w0 w' A := by
  obtain ⟨p, a, x⟩ := h.part
  refine ⟨h.below.trans (k.mono h.le), Nat.le_trans h.le k.size, p, fun b o hb => ?_, x⟩
  obtain ⟨h1, h2⟩ := a b o hb
  exact ⟨h1, (k.block b (Array.getElem?_eq_some_iff.1 h2).1).trans h2⟩
theorem Sat.drewN (h : Sat B w0 w A) (n : Nat) : Sat B w0 (w.drewN n) A := h.below_ ⟨rfl, rfl, rfl, Nat.le_refl _, fun _ _ => rfl⟩
theorem Sat.drew (h : Sat B w0 w A) : Sat B w0 w.drew A := h.below_ ⟨rfl, rfl, rfl, Nat.le_refl _, fun _ _ => rfl⟩
theorem Sat.alloc_ (h : Sat B w0 w A) (o : Obj) : Sat B w0 (w.alloc o) A := h.below_ ((Below.refl _ _).alloc (Nat.le_refl _) o)
/-- A block that was made is one's own. -/
theorem Sat.claim {w' : World} (h : Sat B w0 w A) (k : Below w.heap.size w w') {b : Nat} {o : Obj} (hb : w.heap.size ≤ b) (ho : w'.heap[b]? = some o) : Sat B w0 w' (blk b o • A) := by
  obtain ⟨p, a, x⟩ := h.part
  have h' := h.below_ k
  have hp : p b = none := by
    cases e : p b with
    | none => rfl
    | some o' =>
      have h2 := (Array.getElem?_eq_some_iff.1 (a b o' e).2).1
      omega
  refine ⟨h'.below, h'.le, Part.join (fun c => if c = b then some o else none) p, fun c o' hc => ?_, _, p, fun c => ?_, rfl, ?_, x⟩
  · unfold Part.join at hc
    by_cases e : c = b
    · subst e
      simp at hc
      subst hc
      exact ⟨Nat.le_trans h.le hb, ho⟩
    · simp [e] at hc
      obtain ⟨h1, h2⟩ := a c o' hc
      exact ⟨h1, (k.block c (Array.getElem?_eq_some_iff.1 h2).1).trans h2⟩
  · by_cases e : c = b
    · subst e; exact .inr hp
    · exact .inl (by simp [e])
  · simp [blk]
theorem Sat.alloc (h : Sat B w0 w A) (o : Obj) : Sat B w0 (w.alloc o) (blk w.heap.size o • A) :=
  h.claim ((Below.refl _ _).alloc (Nat.le_refl _) o) (Nat.le_refl _) (heap_alloc_new w o)
/-- One block is another one now. -/
theorem Sat.put {w' : World} {b : Nat} {o o' : Obj} (h : Sat B w0 w (blk b o • A)) (hg : w.grownBy w' (some b)) (ho : w'.heap[b]? = some o') : Sat B w0 w' (blk b o' • A) := by
  obtain ⟨p, a, g, k, ha, e, x, y⟩ := h.part
  have hk : ∀ c o'', k c = some o'' → c ≠ b ∧ B ≤ c ∧ w.heap[c]? = some o'' := by
    intro c o'' hc
    have hne : c ≠ b := by
      rintro rfl
      have x' : g c = some o := x
      rcases ha c with h1 | h1
      · rw [h1] at x'; cases x'
      · rw [h1] at hc; cases hc
    have : p c = some o'' := by
      rw [e]; unfold Part.join
      rcases ha c with h1 | h1
      · rw [h1]; exact hc
      · rw [h1] at hc; cases hc
    exact ⟨hne, a c o'' this⟩
  refine ⟨h.below.grown hg h.le (fun c hc => by cases hc; exact h.ge), Nat.le_trans h.le hg.size, Part.join (fun c => if c = b then some o' else none) k, fun c o'' hc => ?_, _, k, fun c => ?_, rfl, ?_, y⟩
  · unfold Part.join at hc
    by_cases e : c = b
    · subst e
      simp at hc
      subst hc
      exact ⟨h.ge, ho⟩
    · simp [e] at hc
      obtain ⟨_, h1, h2⟩ := hk c o'' hc
      exact ⟨h1, (hg.block c (Array.getElem?_eq_some_iff.1 h2).1 (fun e' => e (by cases e'; rfl))).trans h2⟩
  · by_cases e : c = b
    · subst e
      right
      cases e' : k c with
      | none => rfl
      | some o'' => exact absurd rfl (hk c o'' e').1
    · exact .inl (by simp [e])
  · simp [blk]
theorem grownBy_setCell (w : World) (b i : Nat) (s : Option Nat) (v : Value) : w.grownBy (w.setCell ⟨b, i, s⟩ v) (some b) :=
  ⟨rfl, rfl, rfl, by simp [World.setCell], fun k _ hne => Below.heap_setCell w _ v k (fun e => hne (by rw [e]))⟩
theorem heap_setCell_at (w : World) (b i : Nat) (v : Value) {c : Array Value} {t : TypeId} {fr : Nat × Nat} (h : w.heap[b]? = some (.cells c t fr)) :
    (w.setCell ⟨b, i, none⟩ v).heap[b]? = some (.cells (c.setIfInBounds i v) t fr) := by
  simp [World.setCell, Array.getElem?_modify, h]
theorem Sat.setCell {b i : Nat} {v : Value} {c : Array Value} {t : TypeId} {fr : Nat × Nat} (h : Sat B w0 w (blk b (.cells c t fr) • A)) :
    Sat B w0 (w.setCell ⟨b, i, none⟩ v) (blk b (.cells (c.setIfInBounds i v) t fr) • A) :=
  h.put (grownBy_setCell w b i none v) (heap_setCell_at w b i v h.heap)
theorem Sat.swap (h : Sat B w0 w (A • F)) : Sat B w0 w (F • A) := h.to (star_comm A F)
theorem Sat.pull2 {A1 A2 : HP} (h : Sat B w0 w (A1 • A2 • F)) : Sat B w0 w (A2 • A1 • F) := h.to (star_left_comm _ _ _)
theorem Sat.pull3 {A1 A2 A3 : HP} (h : Sat B w0 w (A1 • A2 • A3 • F)) : Sat B w0 w (A3 • A1 • A2 • F) :=
  h.to (by rw [star_left_comm A2 A3, star_left_comm A1 A3])
theorem Sat.pull4 {A1 A2 A3 A4 : HP} (h : Sat B w0 w (A1 • A2 • A3 • A4 • F)) : Sat B w0 w (A4 • A1 • A2 • A3 • F) :=
  h.to (by rw [star_left_comm A3 A4, star_left_comm A2 A4, star_left_comm A1 A4])
theorem star_emp_imp (A : HP) : ∀ p, A p → (A • emp) p := by
  intro p h
  refine ⟨p, fun _ => none, fun _ => .inr rfl, ?_, h, trivial⟩
  funext b; unfold Part.join; cases p b <;> rfl
theorem Sat.add_emp (h : Sat B w0 w A) : Sat B w0 w (A • emp) := h.imp (star_emp_imp A)
end
end Go.Proofs.YtdcekoocnoackaaGreatDoor

/-! rule.port and addr.number at the numerals of the text. -/
namespace Go.Proofs.YtdcekoocnoackaaGreatDoor
open Go Go.RowKit

theorem trim_digits (s : ByteArray) (hs : s.size ≤ 100) (w : World) : Calls Tryz.prog 287 #[.string s, .string ⟨#[48, 49, 50, 51, 52, 53, 54, 55, 56, 57]⟩] w fun e w' => e = .returned (.string ⟨(Lib.trimS s.data.toList [48, 49, 50, 51, 52, 53, 54, 55, 56, 57]).toArray⟩) ∧ Below w.heap.size w w' :=
  Any.strings_Trim_laid Tryz.lays160 (by kernel_rfl) s ⟨#[48, 49, 50, 51, 52, 53, 54, 55, 56, 57]⟩ w (by omega) (by decide) (ascii_of_all (by decide))
theorem bytesWorld_below (w : World) (s : ByteArray) (t : TypeId) : Below w.heap.size w (Lib.bytesWorld w t s) := by
  exact ⟨rfl, rfl, rfl, by rw [Lib.bytesWorld_size]; omega, fun j hj => Lib.bytesWorld_at_old w t s j hj⟩

set_option maxRecDepth 8000 in
set_option maxHeartbeats 1000000 in
theorem port_1 (w : World) : Calls Tryz.prog 254 #[.string ⟨#[49]⟩] w fun e w' => e = .returned (.tuple #[.int .i64 1, .nilIface]) ∧ Below w.heap.size w w' := by
  have c1 := trim_digits ⟨#[49]⟩ (by decide) w
  rw [show Lib.trimS (⟨#[49]⟩ : ByteArray).data.toList [48, 49, 50, 51, 52, 53, 54, 55, 56, 57] = [] by decide] at c1
  have c2 := fun W => Tryz.strconv_Atoi ⟨#[49]⟩ 1 (by decide) (by decide) W
  go_enter Tryz.func254, Tryz.ntmps254
  go_wp2_with fail
  refine c1.mono ?_
  rintro e w1 ⟨rfl, hb1⟩
  go_wp2_with fail
  refine (c2 _).mono ?_
  rintro e w2 ⟨rfl, t, rfl⟩
  go_wp2_with fail
  go_ret2
  exact ⟨rfl, hb1.trans ((bytesWorld_below _ _ _).mono hb1.size)⟩

set_option maxRecDepth 8000 in
set_option maxHeartbeats 1000000 in
theorem port_9 (w : World) : Calls Tryz.prog 254 #[.string ⟨#[57]⟩] w fun e w' => e = .returned (.tuple #[.int .i64 9, .nilIface]) ∧ Below w.heap.size w w' := by
  have c1 := trim_digits ⟨#[57]⟩ (by decide) w
  rw [show Lib.trimS (⟨#[57]⟩ : ByteArray).data.toList [48, 49, 50, 51, 52, 53, 54, 55, 56, 57] = [] by decide] at c1
  have c2 := fun W => Tryz.strconv_Atoi ⟨#[57]⟩ 9 (by decide) (by decide) W
  go_enter Tryz.func254, Tryz.ntmps254
  go_wp2_with fail
  refine c1.mono ?_
  rintro e w1 ⟨rfl, hb1⟩
  go_wp2_with fail
  refine (c2 _).mono ?_
  rintro e w2 ⟨rfl, t, rfl⟩
  go_wp2_with fail
  go_ret2
  exact ⟨rfl, hb1.trans ((bytesWorld_below _ _ _).mono hb1.size)⟩

set_option maxRecDepth 8000 in
set_option maxHeartbeats 1000000 in
theorem number_9 (w : World) : Calls Tryz.prog 251 #[.string ⟨#[57]⟩, .int .i64 3, .int .i64 255] w fun e w' => e = .returned (.tuple #[.int .i64 9, .nilIface]) ∧ Below w.heap.size w w' := by
  have c1 := trim_digits ⟨#[57]⟩ (by decide) w
  rw [show Lib.trimS (⟨#[57]⟩ : ByteArray).data.toList [48, 49, 50, 51, 52, 53, 54, 55, 56, 57] = [] by decide] at c1
  have c2 := fun W => Tryz.strconv_Atoi ⟨#[57]⟩ 9 (by decide) (by decide) W
  go_enter Tryz.func251, Tryz.ntmps251
  go_wp2_with fail
  refine c1.mono ?_
  rintro e w1 ⟨rfl, hb1⟩
  go_wp2_with fail
  refine (c2 _).mono ?_
  rintro e w2 ⟨rfl, t, rfl⟩
  go_wp2_with fail
  go_ret2
  exact ⟨rfl, hb1.trans ((bytesWorld_below _ _ _).mono hb1.size)⟩

set_option maxRecDepth 8000 in
set_option maxHeartbeats 1000000 in
theorem number_10 (w : World) : Calls Tryz.prog 251 #[.string ⟨#[49, 48]⟩, .int .i64 3, .int .i64 255] w fun e w' => e = .returned (.tuple #[.int .i64 10, .nilIface]) ∧ Below w.heap.size w w' := by
  have c1 := trim_digits ⟨#[49, 48]⟩ (by decide) w
  rw [show Lib.trimS (⟨#[49, 48]⟩ : ByteArray).data.toList [48, 49, 50, 51, 52, 53, 54, 55, 56, 57] = [] by decide] at c1
  have c2 := fun W => Tryz.strconv_Atoi ⟨#[49, 48]⟩ 10 (by decide) (by decide) W
  go_enter Tryz.func251, Tryz.ntmps251
  go_wp2_with fail
  refine c1.mono ?_
  rintro e w1 ⟨rfl, hb1⟩
  go_wp2_with fail
  refine (c2 _).mono ?_
  rintro e w2 ⟨rfl, t, rfl⟩
  go_wp2_with fail
  go_ret2
  exact ⟨rfl, hb1.trans ((bytesWorld_below _ _ _).mono hb1.size)⟩

set_option maxRecDepth 8000 in
set_option maxHeartbeats 1000000 in
theorem number_0 (w : World) : Calls Tryz.prog 251 #[.string ⟨#[48]⟩, .int .i64 3, .int .i64 255] w fun e w' => e = .returned (.tuple #[.int .i64 0, .nilIface]) ∧ Below w.heap.size w w' := by
  have c1 := trim_digits ⟨#[48]⟩ (by decide) w
  rw [show Lib.trimS (⟨#[48]⟩ : ByteArray).data.toList [48, 49, 50, 51, 52, 53, 54, 55, 56, 57] = [] by decide] at c1
  have c2 := fun W => Tryz.strconv_Atoi ⟨#[48]⟩ 0 (by decide) (by decide) W
  go_enter Tryz.func251, Tryz.ntmps251
  go_wp2_with fail
  refine c1.mono ?_
  rintro e w1 ⟨rfl, hb1⟩
  go_wp2_with fail
  refine (c2 _).mono ?_
  rintro e w2 ⟨rfl, t, rfl⟩
  go_wp2_with fail
  go_ret2
  exact ⟨rfl, hb1.trans ((bytesWorld_below _ _ _).mono hb1.size)⟩

set_option maxRecDepth 8000 in
set_option maxHeartbeats 1000000 in
theorem number_8 (w : World) : Calls Tryz.prog 251 #[.string ⟨#[56]⟩, .int .i64 3, .int .i64 128] w fun e w' => e = .returned (.tuple #[.int .i64 8, .nilIface]) ∧ Below w.heap.size w w' := by
  have c1 := trim_digits ⟨#[56]⟩ (by decide) w
  rw [show Lib.trimS (⟨#[56]⟩ : ByteArray).data.toList [48, 49, 50, 51, 52, 53, 54, 55, 56, 57] = [] by decide] at c1
  have c2 := fun W => Tryz.strconv_Atoi ⟨#[56]⟩ 8 (by decide) (by decide) W
  go_enter Tryz.func251, Tryz.ntmps251
  go_wp2_with fail
  refine c1.mono ?_
  rintro e w1 ⟨rfl, hb1⟩
  go_wp2_with fail
  refine (c2 _).mono ?_
  rintro e w2 ⟨rfl, t, rfl⟩
  go_wp2_with fail
  go_ret2
  exact ⟨rfl, hb1.trans ((bytesWorld_below _ _ _).mono hb1.size)⟩
end Go.Proofs.YtdcekoocnoackaaGreatDoor

namespace Go.Proofs.YtdcekoocnoackaaGreatDoor
open Go Go.RowKit

/-- A slice of one's own: nil, or at the head of a block of one's own. -/
def arr (e : TypeId) (sz : Nat) (v : Value) (n : Nat) (xs : List Value) : HP := fun h =>
  xs.length = n * sz ∧ ((v = .slice none 0 0 ∧ n = 0) ∨
    ∃ g cap cur, v = .slice (some ⟨g, 0, none⟩) n cap ∧ n ≤ cap ∧ cap ≤ maxLen ∧ cur.size = cap * sz ∧ cur.toList.take (n * sz) = xs ∧ h g = some (.cells cur e (0, 0)))

section
variable {B : Nat} {w0 w w' : World} {F : HP} {e : TypeId} {sz n : Nat} {v : Value} {xs : List Value}
theorem star_true {A : HP} (h : ∀ p, A p) (hF : Sat B w0 w F) : Sat B w0 w (A • F) := by
  obtain ⟨p, a, x⟩ := hF.part
  refine ⟨hF.below, hF.le, p, a, fun _ => none, p, fun _ => .inl rfl, ?_, h _, x⟩
  funext b; rfl
theorem arr_nil (hF : Sat B w0 w F) : Sat B w0 w (arr e sz (.slice none 0 0) 0 [] • F) :=
  star_true (fun _ => ⟨by simp, .inl ⟨rfl, rfl⟩⟩) hF
theorem Sat.arr_len (h : Sat B w0 w (arr e sz v n xs • F)) : xs.length = n * sz := by
  obtain ⟨p, _, x⟩ := h.left.part
  exact x.1
/-- Nil, or a block. -/
theorem Sat.arr_open (h : Sat B w0 w (arr e sz v n xs • F)) : (v = .slice none 0 0 ∧ n = 0 ∧ xs = [] ∧ Sat B w0 w F) ∨
    ∃ g cap cur, v = .slice (some ⟨g, 0, none⟩) n cap ∧ n ≤ cap ∧ cap ≤ maxLen ∧ cur.size = cap * sz ∧ cur.toList.take (n * sz) = xs ∧ Sat B w0 w (blk g (.cells cur e (0, 0)) • F) := by
  obtain ⟨p, a, g, k, ha, hj, ⟨hl, hv⟩, y⟩ := h.part
  rcases hv with ⟨rfl, rfl⟩ | ⟨b, cap, cur, rfl, h1, h2, h3, h4, h5⟩
  · exact .inl ⟨rfl, rfl, List.eq_nil_of_length_eq_zero (by simpa using hl), h.drop⟩
  · exact .inr ⟨b, cap, cur, rfl, h1, h2, h3, h4, h.below, h.le, p, a, g, k, ha, hj, h5, y⟩
theorem Sat.arr_shut {g cap : Nat} {cur : Array Value} (hn : n ≤ cap) (hm : cap ≤ maxLen) (hs : cur.size = cap * sz) (ht : cur.toList.take (n * sz) = xs) (h : Sat B w0 w (blk g (.cells cur e (0, 0)) • F)) :
    Sat B w0 w (arr e sz (.slice (some ⟨g, 0, none⟩) n cap) n xs • F) :=
  h.imp_left fun p hp => ⟨by
    rw [← ht, List.length_take, Array.length_toList, hs]
    exact Nat.min_eq_left (Nat.mul_le_mul_right _ hn), .inr ⟨g, cap, cur, rfl, hn, hm, hs, ht, hp⟩⟩
theorem Sat.owns (h : Sat B w0 w (arr e sz v n xs • F)) : w.ownsRow B e sz v n xs := by
  refine ⟨h.arr_len, ?_⟩
  rcases h.arr_open with ⟨rfl, rfl, _, _⟩ | ⟨g, cap, cur, rfl, h1, h2, h3, h4, h5⟩
  · exact .inl ⟨rfl, rfl⟩
  · exact .inr ⟨g, cap, cur, rfl, h5.ge, h5.heap, h1, h2, h3, h4⟩
theorem below_of_grown {row : Option Nat} (hg : w.grownBy w' row) (h : ∀ k, row = some k → w.heap.size ≤ k) : Below w.heap.size w w' :=
  ⟨hg.os, hg.tape, hg.output, hg.size, fun k hk => hg.block k hk (fun e => by have := h k e.symm; omega)⟩
theorem Sat.of_owns {v' : Value} {n' : Nat} {xs' : List Value} (h : Sat B w0 w (arr e sz v n xs • F)) (hg : w.grownBy w' v.ownBlock) (ho : w'.ownsRow B e sz v' n' xs')
    (hat : v'.ownBlock = v.ownBlock ∨ ∃ b, v'.ownBlock = some b ∧ w.heap.size ≤ b) : Sat B w0 w' (arr e sz v' n' xs' • F) := by
  obtain ⟨hl', hv'⟩ := ho
  rcases h.arr_open with ⟨rfl, rfl, _, hF⟩ | ⟨g, cap, cur, rfl, h1, h2, h3, h4, h5⟩
  · have hb : Below w.heap.size w w' := below_of_grown hg (fun k hk => by simp [Value.ownBlock] at hk)
    rcases hv' with ⟨rfl, rfl⟩ | ⟨g', cap', cur', rfl, hB', hh, h1', h2', h3', h4'⟩
    · obtain rfl : xs' = [] := List.eq_nil_of_length_eq_zero (by simpa using hl')
      exact arr_nil (hF.below_ hb)
    · rcases hat with hat | ⟨b, hat, hbs⟩
      · simp [Value.ownBlock] at hat
      · obtain rfl : g' = b := by simpa [Value.ownBlock] using hat
        exact Sat.arr_shut h1' h2' h3' h4' (hF.claim hb hbs hh)
  · have hlt := h5.lt
    obtain ⟨o', ho'⟩ : ∃ o', w'.heap[g]? = some o' := ⟨_, Array.getElem?_eq_getElem (Nat.lt_of_lt_of_le hlt hg.size)⟩
    have h6 := h5.put (by simpa [Value.ownBlock] using hg) ho'
    rcases hv' with ⟨rfl, rfl⟩ | ⟨g', cap', cur', rfl, hB', hh, h1', h2', h3', h4'⟩
    · obtain rfl : xs' = [] := List.eq_nil_of_length_eq_zero (by simpa using hl')
      exact arr_nil h6.drop
    · rcases hat with hat | ⟨b, hat, hbs⟩
      · obtain rfl : g' = g := by simpa [Value.ownBlock] using hat
        rw [ho'] at hh
        cases hh
        exact Sat.arr_shut h1' h2' h3' h4' h6
      · obtain rfl : g' = b := by simpa [Value.ownBlock] using hat
        have hF := h5.drop
        obtain ⟨p, a, x⟩ := h6.drop.part
        -- the new block lies in no old part
        obtain ⟨q, qa, qg, qk, qap, qe, qx, qy⟩ := h5.part
        refine Sat.arr_shut h1' h2' h3' h4' ⟨h6.below, h6.le, Part.join (fun c => if c = g' then some (.cells cur' e (0, 0)) else none) qk, fun c o hc => ?_, _, qk, fun c => ?_, rfl, ?_, qy⟩
        · unfold Part.join at hc
          by_cases ec : c = g'
          · subst ec; simp at hc; subst hc; exact ⟨hB', hh⟩
          · simp [ec] at hc
            have hq : q c = some o := by
              rw [qe]; unfold Part.join
              rcases qap c with h7 | h7
              · rw [h7]; exact hc
              · rw [h7] at hc; cases hc
            obtain ⟨h8, h9⟩ := qa c o hq
            have hcg : c ≠ g := by
              rintro rfl
              have qx' : qg c = some _ := qx
              rcases qap c with h7 | h7
              · rw [h7] at qx'; cases qx'
              · rw [h7] at hc; cases hc
            refine ⟨h8, (hg.block c (Array.getElem?_eq_some_iff.1 h9).1 ?_).trans h9⟩
            simp [Value.ownBlock]; exact hcg
        · by_cases ec : c = g'
          · subst ec
            right
            cases hk : qk c with
            | none => rfl
            | some o =>
              have hq : q c = some o := by
                rw [qe]; unfold Part.join
                rcases qap c with h7 | h7
                · rw [h7]; exact hk
                · rw [h7] at hk; cases hk
              have := (Array.getElem?_eq_some_iff.1 (qa c o hq).2).1
              omega
          · exact .inl (by simp [ec])
        · simp [blk]

theorem Sat.arr_form (h : Sat B w0 w (arr e sz v n xs • F)) : ∃ A c, v = .slice A n c := by
  rcases h.arr_open with ⟨rfl, rfl, _, _⟩ | ⟨g, cap, cur, rfl, _⟩
  · exact ⟨none, 0, rfl⟩
  · exact ⟨_, cap, rfl⟩

/-- What a slice that is read holds: nil, or cells at an address. -/
def Reads (w : World) (v : Value) (m : Nat) (news : List Value) : Prop :=
  (∃ c, v = .slice none 0 c ∧ m = 0 ∧ news = []) ∨ ∃ a c, v = .slice (some a) m c ∧ ∀ j u, news[j]? = some u → w.cell? (a.add j) = some u

theorem Sat.arr_reads (h : Sat B w0 w (arr e sz v n xs • F)) : Reads w v n xs := by
  rcases h.arr_open with ⟨rfl, rfl, rfl, _⟩ | ⟨g, cap, cur, rfl, h1, h2, h3, h4, h5⟩
  · exact .inl ⟨0, rfl, rfl, rfl⟩
  · exact .inr ⟨_, cap, rfl, fun j u hu => h.owns.cells (g := g) rfl j u hu⟩

/-- append onto a slice of one's own. -/
theorem Sat.append {P : Program} {t ty : TypeId} {z : Value} {bytes m : Nat} {news : List Value} {x : Value}
    (h : Sat B w0 w (arr e sz v n xs • F)) (ht : P.underlying t = some (.slice e)) (hi : (P.info? e).map (fun i => (i.zero, i.size, i.bytes)) = some (some z, sz, bytes)) (hzs : z.cells.size = sz) (hsz : 0 < sz)
    (hx : Reads w x m news) (hl : news.length = m * sz) (h1 : ∀ u ∈ news, u.oneCell' = true) (h63 : n + m ≤ maxLen) (hbytes : (n + m) * bytes ≤ 140737488355328) :
    ∃ v' w', (Builtin.append_ #[t, t] ty #[v, x]).run P w = .ok v' w' ∧ Sat B w0 w' (arr e sz v' (n + m) (xs ++ news) • F) := by
  obtain ⟨i0, hi0, hzz⟩ := Option.map_eq_some_iff.1 hi
  simp only [Prod.mk.injEq] at hzz
  obtain ⟨hz0, hz1, hz2⟩ := hzz
  rcases hx with ⟨c, rfl, rfl, rfl⟩ | ⟨a, c, rfl, hc⟩
  · refine ⟨v, w, ?_, by simpa using h⟩
    rcases h.arr_open with ⟨rfl, rfl, _, _⟩ | ⟨g, cap, cur, rfl, h2, _, _, _, _⟩
    · simp [Builtin.append_, run_underlying ht, sizeOf, typeInfo, hi0, Builtin.lenOf, Builtin.firstCells]
    · simp [Builtin.append_, run_underlying ht, sizeOf, typeInfo, hi0, Builtin.lenOf, Builtin.firstCells, h2, storeCells]
  · obtain ⟨v', w', hr, ho, hg, _, hat⟩ := run_append_own_at (P := P) w B t ty e i0 z sz bytes ht hi0 hz0 hz1 hz2 hzs hsz v n xs h.owns a m c news hl hc h1 h63 hbytes h.le
    refine ⟨v', w', hr, h.of_owns hg ho ?_⟩
    rcases hat with hat | hat
    · exact .inl hat
    · exact .inr ⟨_, hat, Nat.le_refl _⟩

/-- append, at the operation. -/
theorem wpList_append_run {P : Program} {ops : Array Oper} {rest : List Oper} {o : Oper} {a : Act} {Q : Exit → Act → World → Prop} (hgd : o.guard = none) (s x : Operand) (t : TypeId)
    (ho : o.op = .call { callee := .builtin .append, args := #[s, x], argTypes := #[t, t] }) {vs vx v' : Value} (hs : a.eval s = vs) (hx : a.eval x = vx)
    (hr : (Builtin.append_ #[t, t] o.type #[vs, vx]).run P w = .ok v' w') (h : wpList P ops Q rest (a.put o.dst v') w') : wpList P ops Q (o :: rest) a w := by
  refine wpList_plain hgd fun K hK => ?_
  unfold Oper.wp execOp
  simp only [ho, resolve, invoke, builtin, Sem.run_bind, Sem.run_pure, Result.andThen_ok, List.map_toArray, List.map_cons, List.map_nil, hs, hx, hr]
  exact hK _ _ h
theorem wp_append_run {P : Program} {o : Oper} {a : Act} {K : Act → World → Prop} {Q : Exit → Act → World → Prop} (s x : Operand) (t : TypeId)
    (ho : o.op = .call { callee := .builtin .append, args := #[s, x], argTypes := #[t, t] }) {vs vx v' : Value} (hs : a.eval s = vs) (hx : a.eval x = vx)
    (hr : (Builtin.append_ #[t, t] o.type #[vs, vx]).run P w = .ok v' w') (h : K (a.put o.dst v') w') : o.wp P a w K Q := by
  unfold Oper.wp execOp
  simp only [ho, resolve, invoke, builtin, Sem.run_bind, Sem.run_pure, Result.andThen_ok, List.map_toArray, List.map_cons, List.map_nil, hs, hx, hr]
  exact h
end
end Go.Proofs.YtdcekoocnoackaaGreatDoor
