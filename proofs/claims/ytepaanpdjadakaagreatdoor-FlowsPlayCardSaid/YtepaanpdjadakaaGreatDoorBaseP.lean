import Derived.Test.YtepaanpdjadakaaGreatDoorAddr
import Derived.Test.YtepaanpdjadakaaGreatDoorSame
import Derived.Test.YtepaanpdjadakaaGreatDoorTab
import Derived.Shelf.Abstract
import Derived.IntWalk
import Derived.Test.YtepaanpdjadakaaGreatDoorFail
import Derived.Test.YtepaanpdjadakaaGreatDoorBase
import Derived.Test.YtepaanpdjadakaaGreatDoorBaseQ
import Derived.Lib.Hide
import Derived.Deep.QuietTactic
import Derived.BigQuiet
import Derived.Lib.MinMax
import Derived.ProofKit

/-! Queries. -/
namespace Go.Proofs.YtepaanpdjadakaaGreatDoor
open Go Go.RowKit

structure Qst where
  name : ByteArray
  typ : Int
  cls : Int
  deriving DecidableEq
def Qst.enc (q : Qst) : List Value := [.string q.name, .int .i64 q.typ, .int .i64 q.cls]
structure Qry where
  client : Adr
  server : Adr
  port : Int
  id : Int
  tcp : Bool
  qst : Qst
  deriving DecidableEq
def Qry.enc (q : Qry) : List Value := q.client.enc ++ (q.server.enc ++ ([.int .i64 q.port, .int .i64 q.id, .bool q.tcp] ++ q.qst.enc))
abbrev Qry.enc_sz : Nat := 40
theorem Qst.enc_length (q : Qst) : q.enc.length = 3 := rfl
theorem Qry.enc_length (q : Qry) : q.enc.length = 40 := by simp [Qry.enc, Qst.enc, Adr.enc_length]
theorem Qry.enc_one (q : Qry) : ∀ u ∈ q.enc, u.oneCell' = true := by
  intro u hu
  simp only [Qry.enc, Qst.enc, List.mem_append, List.mem_cons, List.not_mem_nil, or_false] at hu
  rcases hu with h | h | (rfl | rfl | rfl) | rfl | rfl | rfl
  · exact q.client.enc_one u h
  · exact q.server.enc_one u h
  all_goals rfl
instance : Inhabited Adr := ⟨⟨false, List.replicate 16 0, rfl⟩⟩
instance : Inhabited Qry := ⟨⟨default, default, 0, 0, false, ⟨⟨#[]⟩, 0, 0⟩⟩⟩
theorem str_eqv {w : World} {d : Nat} {t : TypeId} (hu : Tryz.prog.underlying t = some .string) (a b : ByteArray) : EqV Tryz.prog w (d + 1) t (.string a) (.string b) (decide (a = b)) := by
  have := EqV.string (P := Tryz.prog) (w := w) (d := d) (t := t) (a := a) (b := b) hu
  rw [strl] at this
  exact this
theorem Qry.part0 (q : Qry) : (q.enc.drop 0).take q.client.enc.length = q.client.enc := by
  rw [List.drop_zero, Qry.enc, List.take_left']; rfl
theorem Qry.part17 (q : Qry) : (q.enc.drop 17).take q.server.enc.length = q.server.enc := by
  rw [Qry.enc, List.drop_left' (Adr.enc_length _), List.take_left']; rfl
theorem Qry.drop34 (q : Qry) : q.enc.drop 34 = [.int .i64 q.port, .int .i64 q.id, .bool q.tcp] ++ q.qst.enc := by
  rw [show (34 : Nat) = 17 + 17 from rfl, ← List.drop_drop, Qry.enc, List.drop_left' (Adr.enc_length _), List.drop_left' (Adr.enc_length _)]
theorem Qry.part37 (q : Qry) : (q.enc.drop 37).take q.qst.enc.length = q.qst.enc := by
  rw [show (37 : Nat) = 34 + 3 from rfl, ← List.drop_drop, Qry.drop34]; rfl
theorem Qry.at34 (q : Qry) (j : Nat) : q.enc[34 + j]? = ([.int .i64 q.port, .int .i64 q.id, .bool q.tcp] ++ q.qst.enc)[j]? := by
  rw [← Qry.drop34, List.getElem?_drop]
theorem Qry.at17 (q : Qry) (j : Nat) (hj : j < 17) : q.enc[17 + j]? = q.server.enc[j]? := by
  have h := q.part17
  rw [← h, List.getElem?_take, if_pos (by rw [Adr.enc_length]; exact hj), List.getElem?_drop]
theorem Qry.at0 (q : Qry) (j : Nat) (hj : j < 17) : q.enc[j]? = q.client.enc[j]? := by
  have h := q.part0
  rw [← h, List.getElem?_take, if_pos (by rw [Adr.enc_length]; exact hj), List.drop_zero]
end Go.Proofs.YtepaanpdjadakaaGreatDoor

/-! slices.IndexFunc, slices.DeleteFunc at a struct, and a predicate that acts. -/
namespace Go.Proofs.YtepaanpdjadakaaGreatDoor
open Go Go.RowKit

section
variable {B : Nat} {w0 w w' : World} {F : HP} {β : Type} {enc : β → List Value} {p : β → Bool} {l : List β} {g : Nat} {lb : Array Value} {v : Value}
end
end Go.Proofs.YtepaanpdjadakaaGreatDoor

/-! drop of a table. -/
namespace Go.Proofs.YtepaanpdjadakaaGreatDoor
open Go Go.RowKit

section
variable {B : Nat} {w0 w w' : World} {F X : HP} {α : Type} {ek : α → List Value} {p : Itm α → Bool} {R : List (Itm α)} {g : Nat} {lb : Array Value} {bi bt t q room : Nat} {next : Int} {v : Value}
attribute [local irreducible] wpOrd
end
end Go.Proofs.YtepaanpdjadakaaGreatDoor

/-! Tables of queries: New, Len, place, Has. -/
namespace Go.Proofs.YtepaanpdjadakaaGreatDoor
open Go Go.RowKit

instance {α : Type} [Inhabited α] : Inhabited (Itm α) := ⟨⟨default, 0, 0⟩⟩
def isQ (q : Qry) (x : Itm Qry) : Bool := decide (x.key = q)
section
variable {B : Nat} {w0 w w' : World} {F X : HP} {R : List (Itm Qry)} {t room : Nat} {next : Int}
theorem plc_any {β : Type} (p : β → Bool) (l : List β) : (0 ≤ plc p l) ↔ l.any p = true := by
  rcases plc_cases p l with ⟨h1, h2⟩ | ⟨k, x, h1, h2, h3, _⟩
  · rw [h1]
    constructor
    · intro h; omega
    · intro h
      rw [List.any_eq_true] at h
      obtain ⟨x, hx, hp⟩ := h
      rw [h2 x hx] at hp; cases hp
  · rw [h3]
    constructor
    · intro _; rw [List.any_eq_true]; exact ⟨x, List.mem_of_getElem? h1, h2⟩
    · intro _; omega
end
end Go.Proofs.YtepaanpdjadakaaGreatDoor

/-! Tables of queries: Take, Expire, Keep. -/
namespace Go.Proofs.YtepaanpdjadakaaGreatDoor
open Go Go.RowKit

def late (now : Int) (x : Itm Qry) : Bool := decide (x.due ≤ now)
def away (ss : List Adr) (x : Itm Qry) : Bool := !ss.any fun a => decide (x.key.server = a)
section
variable {B : Nat} {w0 w w' : World} {F X : HP} {R : List (Itm Qry)} {t room : Nat} {next : Int}
theorem filter_lt {β : Type} (p : β → Bool) (l : List β) : ((0 : Int) < (l.length : Int) - (l.filter fun x => !p x).length) ↔ l.any p = true := by
  have h1 := List.length_filter_lt_length_iff_exists (l := l) (p := fun x => !p x)
  have h2 := List.length_filter_le (fun x => !p x) l
  rw [List.any_eq_true]
  constructor
  · intro h
    obtain ⟨x, hx, hp⟩ := h1.1 (by omega)
    exact ⟨x, hx, by simpa using hp⟩
  · rintro ⟨x, hx, hp⟩
    have := h1.2 ⟨x, hx, by simp [hp]⟩
    omega
attribute [local irreducible] wpOrd
end
end Go.Proofs.YtepaanpdjadakaaGreatDoor

/-! Tables of queries: Contains, Keep. -/
namespace Go.Proofs.YtepaanpdjadakaaGreatDoor
open Go Go.RowKit

section
variable {B : Nat} {w0 w w' : World} {F X : HP} {R : List (Itm Qry)} {t room : Nat} {next : Int}
attribute [local irreducible] wpOrd
end
end Go.Proofs.YtepaanpdjadakaaGreatDoor

/-! Tables of queries: All. -/
namespace Go.Proofs.YtepaanpdjadakaaGreatDoor
open Go Go.RowKit

section
variable {B : Nat} {w0 w w' : World} {F X : HP} {R : List (Itm Qry)} {t room : Nat} {next : Int}
end
end Go.Proofs.YtepaanpdjadakaaGreatDoor

/-! Tables of queries: Add. -/
namespace Go.Proofs.YtepaanpdjadakaaGreatDoor
open Go Go.RowKit

section
variable {B : Nat} {w0 w w' : World} {F X : HP} {R : List (Itm Qry)} {t room : Nat} {next : Int}
def KN (R : List (Itm Qry)) : Prop := (R.map (·.key)).Nodup
def setKey (R : List (Itm Qry)) (q : Qry) (u : Int) : List (Itm Qry) := R.map fun x => if x.key = q then { x with due := u } else x
def addC (room : Nat) (R : List (Itm Qry)) (q : Qry) : Int := if R.any (isQ q) then 0 else if room ≤ R.length then 18 else 0
def addR (room : Nat) (R : List (Itm Qry)) (next : Int) (q : Qry) (u : Int) : List (Itm Qry) := if R.any (isQ q) then setKey R q u else if room ≤ R.length then R else R ++ [⟨q, next, u⟩]
def addN (room : Nat) (R : List (Itm Qry)) (next : Int) (q : Qry) : Int := if R.any (isQ q) then next else if room ≤ R.length then next else next + 1
theorem setKey_due {k : Nat} {x : Itm Qry} {q : Qry} (hn : (R.map (·.key)).Nodup) (hg : Good R next) (h : R[k]? = some x) (hq : x.key = q) (u : Int) : setDue R x.id u = setKey R q u := by
  unfold setDue setKey
  apply List.map_congr_left
  intro y hy
  obtain ⟨j, hj⟩ := List.mem_iff_getElem?.1 hy
  obtain ⟨h1, h2⟩ := List.getElem?_eq_some_iff.1 h
  obtain ⟨h3, h4⟩ := List.getElem?_eq_some_iff.1 hj
  by_cases e : k = j
  · subst e
    rw [h] at hj; cases hj
    simp [hq]
  · have hid : y.id ≠ x.id := by
      intro e2
      have := (List.getElem_inj (xs := R.map (·.id)) (i := k) (j := j) (h₀ := by simpa using h1) (h₁ := by simpa using h3) hg.1).1 (by simp only [List.getElem_map]; rw [h2, h4, e2])
      exact e this
    have hky : y.key ≠ q := by
      intro e2
      have := (List.getElem_inj (xs := R.map (·.key)) (i := k) (j := j) (h₀ := by simpa using h1) (h₁ := by simpa using h3) hn).1 (by simp only [List.getElem_map]; rw [h2, h4, hq, e2])
      exact e this
    rw [if_neg hid, if_neg hky]
theorem setDue_cells (id u : Int) : (setDue R id u).flatMap (itmC Qry.enc) = R.flatMap (itmC Qry.enc) := by
  unfold setDue
  rw [List.flatMap_map]
  congr 1
  funext x
  unfold itmC
  split <;> rfl
theorem splice_two {z : Array Value} {a b : List Value} (hz : z.size = a.length + b.length) : splice (splice z 0 a) a.length b = (a ++ b).toArray := by
  have h1 : (splice z 0 a).toList.take a.length = a := by
    unfold splice
    simp only [List.take_zero, List.nil_append, Nat.zero_add]
    rw [List.take_left']; rfl
  have h2 : (splice z 0 a).size = z.size := splice_size (by omega)
  unfold splice at h1 h2 ⊢
  rw [h1, List.drop_of_length_le, List.append_nil]
  simp only [List.size_toArray] at h2
  simp only [List.take_zero, List.nil_append, Nat.zero_add] at h2 ⊢
  omega
theorem wp_build2_run {P : Program} {o : Oper} {a : Act} {K : Act → World → Prop} {Q : Exit → Act → World → Prop} {ty : TypeId} {i j : Nat} {x y : Operand} {u v : Value} {cells : Array Value} (ho : o.op = .build ty #[(i, x), (j, y)]) (hx : a.eval x = u) (hy : a.eval y = v) (hb : P.built ty [(i, u), (j, v)] = some cells) (h : K (a.put o.dst (.agg cells)) w) : o.wp P a w K Q :=
  wp_build_run ho (vs := [(i, u), (j, v)]) (by simp [hx, hy]) hb h
attribute [local irreducible] wpOrd
end
end Go.Proofs.YtepaanpdjadakaaGreatDoor

/-! awake of layer 23. -/
namespace Go.Proofs.YtepaanpdjadakaaGreatDoor
open Go Go.RowKit

def zAdr : Adr := ⟨false, List.replicate 16 0, rfl⟩
/-- A query of which there is but the number. -/
def qid (i : Int) : Qry := ⟨zAdr, zAdr, 0, i, false, ⟨⟨#[]⟩, 0, 0⟩⟩
theorem qid_inj {i j : Int} : qid i = qid j ↔ i = j := by simp [qid]
theorem KN.nil : KN [] := by simp [KN]
theorem KN.filter {R : List (Itm Qry)} (h : KN R) (p : Itm Qry → Bool) : KN (R.filter p) := (List.filter_sublist.map _).nodup h
theorem setKey_keys {R : List (Itm Qry)} {q : Qry} {u : Int} : (setKey R q u).map (·.key) = R.map (·.key) := by
  unfold setKey
  rw [List.map_map]
  apply List.map_congr_left
  intro x _
  simp only [Function.comp]
  split <;> rfl
theorem any_key {R : List (Itm Qry)} {q : Qry} : R.any (isQ q) = true ↔ q ∈ R.map (·.key) := by
  rw [List.any_eq_true, List.mem_map]
  constructor
  · rintro ⟨x, hx, h⟩; exact ⟨x, hx, by simpa [isQ] using h⟩
  · rintro ⟨x, hx, h⟩; exact ⟨x, hx, by simpa [isQ] using h⟩
theorem KN.add {R : List (Itm Qry)} (h : KN R) (room : Nat) (next : Int) (q : Qry) (u : Int) : KN (addR room R next q u) := by
  unfold addR
  cases ha : R.any (isQ q)
  · simp only [Bool.false_eq_true, if_false]
    split
    · exact h
    · unfold KN at *
      rw [List.map_append, List.nodup_append]
      refine ⟨h, by simp, ?_⟩
      intro a ha' b hb
      simp only [List.map_cons, List.map_nil, List.mem_singleton] at hb
      subst hb
      rintro rfl
      rw [any_key.2 ha'] at ha
      cases ha
  · simp only [if_true]
    unfold KN at *
    rw [setKey_keys]; exact h
theorem wpList_load_want {P : Program} {w : World} {ops : Array Oper} {rest : List Oper} {o : Oper} {a : Act} {Q : Exit → Act → World → Prop} (hw : Region.wanted o (yielded ops a.tmps) = true) {t : TypeId} {x : Operand} (ho : o.op = .load t x) {p v : Value} (hx : a.eval x = p)
    (hr : (Instr.loadAt t p).run P w = .ok v w) (h : wpList P ops Q rest (a.put o.dst v) w) : wpList P ops Q (o :: rest) a w :=
  BigFrame.wpList_want hw fun _ hK => wp_load_run ho hx hr (hK _ _ h)
theorem wpList_build_want {P : Program} {w : World} {ops : Array Oper} {rest : List Oper} {o : Oper} {a : Act} {Q : Exit → Act → World → Prop} (hw : Region.wanted o (yielded ops a.tmps) = true) {t : TypeId} {parts : Array (Nat × Operand)} (ho : o.op = .build t parts) {vs : List (Nat × Value)} {cells : Array Value}
    (hv : (parts.map fun (i, x) => (i, a.eval x)).toList = vs) (hb : P.built t vs = some cells) (h : wpList P ops Q rest (a.put o.dst (.agg cells)) w) : wpList P ops Q (o :: rest) a w :=
  BigFrame.wpList_want hw fun _ hK => wp_build_run ho hv hb (hK _ _ h)
section
variable {B : Nat} {w0 w w' : World} {F X : HP} {R : List (Itm Qry)} {t room : Nat} {next : Int}
end
end Go.Proofs.YtepaanpdjadakaaGreatDoor

/-! slices.IndexFunc, slices.DeleteFunc at a struct, and a predicate that acts. -/
namespace Go.Proofs.YtepaanpdjadakaaGreatDoor
open Go Go.RowKit

section
variable {B : Nat} {w0 w w' : World} {F : HP} {β : Type} {enc : β → List Value} {p : β → Bool} {l : List β} {g : Nat} {lb : Array Value} {v : Value}
end
end Go.Proofs.YtepaanpdjadakaaGreatDoor

/-! drop of a table. -/
namespace Go.Proofs.YtepaanpdjadakaaGreatDoor
open Go Go.RowKit

section
variable {B : Nat} {w0 w w' : World} {F X : HP} {α : Type} {ek : α → List Value} {p : Itm α → Bool} {R : List (Itm α)} {g : Nat} {lb : Array Value} {bi bt t q room : Nat} {next : Int} {v : Value}
attribute [local irreducible] wpOrd
end
end Go.Proofs.YtepaanpdjadakaaGreatDoor

/-! Facts: keys and rows. -/
namespace Go.Proofs.YtepaanpdjadakaaGreatDoor
open Go Go.RowKit

structure Fk where
  name : ByteArray
  adr : Adr
  deriving DecidableEq
instance : Inhabited Fk := ⟨⟨⟨#[]⟩, ⟨false, List.replicate 16 0, rfl⟩⟩⟩
def Fk.enc (f : Fk) : List Value := .string f.name :: f.adr.enc
abbrev Fk.enc_sz : Nat := 18
theorem Fk.enc_length (f : Fk) : f.enc.length = 18 := by simp [Fk.enc, Adr.enc_length]
theorem Fk.enc_one (f : Fk) : ∀ u ∈ f.enc, u.oneCell' = true := by
  intro u hu
  simp only [Fk.enc, List.mem_cons] at hu
  rcases hu with rfl | h
  · rfl
  · exact f.adr.enc_one u h
theorem Fk.at1 (f : Fk) (j : Nat) : f.enc[1 + j]? = f.adr.enc[j]? := by rw [Nat.add_comm]; rfl
/-- A fact: a key and its end. -/
structure Fct where
  key : Fk
  due : Int
  deriving DecidableEq
instance : Inhabited Fct := ⟨⟨default, 0⟩⟩
def Fct.enc (f : Fct) : List Value := f.key.enc ++ [.int .u64 f.due]
abbrev Fct.enc_sz : Nat := 19
theorem Fct.enc_length (f : Fct) : f.enc.length = 19 := by simp [Fct.enc, Fk.enc_length]
theorem Fct.enc_one (f : Fct) : ∀ u ∈ f.enc, u.oneCell' = true := by
  intro u hu
  simp only [Fct.enc, List.mem_append, List.mem_cons, List.not_mem_nil, or_false] at hu
  rcases hu with h | rfl
  · exact f.key.enc_one u h
  · rfl
theorem Fct.at18 (f : Fct) : f.enc[18]? = some (.int .u64 f.due) := by
  unfold Fct.enc
  rw [List.getElem?_append_right (by rw [Fk.enc_length]; omega), Fk.enc_length]
  rfl
theorem Fct.at0 (f : Fct) (j : Nat) (hj : j < 18) : f.enc[j]? = f.key.enc[j]? := by
  unfold Fct.enc
  rw [List.getElem?_append_left (by rw [Fk.enc_length]; exact hj)]
end Go.Proofs.YtepaanpdjadakaaGreatDoor

/-! Tables of facts: New, Len, end, Expire, Drop. -/
namespace Go.Proofs.YtepaanpdjadakaaGreatDoor
open Go Go.RowKit

attribute [local irreducible] wpOrd
def lateF (now : Int) (x : Itm Fk) : Bool := decide (x.due ≤ now)
def isN (name : ByteArray) (x : Itm Fk) : Bool := decide (x.key.name = name)
section
variable {B : Nat} {w0 w w' : World} {F X : HP} {R : List (Itm Fk)} {t room : Nat} {next : Int}
end
end Go.Proofs.YtepaanpdjadakaaGreatDoor

/-! Tables of facts: All. -/
namespace Go.Proofs.YtepaanpdjadakaaGreatDoor
open Go Go.RowKit

attribute [local irreducible] wpOrd
def fcts (R : List (Itm Fk)) : List Fct := R.map fun x => ⟨x.key, x.due⟩
theorem fcts_length (R : List (Itm Fk)) : (fcts R).length = R.length := by simp [fcts]
theorem splice_three {z0 s u0 u : Value} {A0 A : List Value} (h0 : A0.length = 17) (h : A.length = 17) : splice (splice (splice (z0 :: (A0 ++ [u0])).toArray 0 [s]) 1 A) 18 [u] = (s :: (A ++ [u])).toArray := by
  have e1 : splice (z0 :: (A0 ++ [u0])).toArray 0 [s] = (s :: (A0 ++ [u0])).toArray := by simp [splice]
  have e2 : splice (s :: (A0 ++ [u0])).toArray 1 A = (s :: (A ++ [u0])).toArray := by
    unfold splice
    rw [h, show (1 : Nat) + 17 = 17 + 1 from rfl, List.drop_succ_cons, List.drop_left' h0]
    simp
  rw [e1, e2]
  unfold splice
  rw [show (18 : Nat) = 17 + 1 from rfl, List.take_succ_cons, List.take_left' h]
  have : (s :: (A ++ [u0])).drop (17 + 1 + [u].length) = [] := List.drop_of_length_le (by simp [h])
  rw [this]
  simp
section
variable {B : Nat} {w0 w w' : World} {F X : HP} {R : List (Itm Fk)} {t room : Nat} {next : Int}
theorem exec_build3 {P : Program} {o : Oper} {a : Act} {t i j k : Nat} {x y z : Operand} {u v s : Value} {cells : Array Value} (ho : o.op = .build t #[(i, x), (j, y), (k, z)]) (hx : a.eval x = u) (hy : a.eval y = v) (hz : a.eval z = s) (hb : P.built t [(i, u), (j, v), (k, s)] = some cells) (w' : World) :
    (execOp a.eval o).run P w' = .ok (.value (.agg cells)) w' := by
  have hr := run_build (P := P) w' t ((#[(i, x), (j, y), (k, z)] : Array (Nat × Operand)).map fun (i, x) => (i, a.eval x)) cells (by simpa [hx, hy, hz] using hb)
  unfold execOp
  simp only [ho, Sem.run_bind, hr, Result.andThen_ok]
  rfl
end
end Go.Proofs.YtepaanpdjadakaaGreatDoor

/-! awake of layer 17. -/
namespace Go.Proofs.YtepaanpdjadakaaGreatDoor
open Go Go.RowKit

theorem ent_eq {w : World} (d : Nat) (a b : Ent) : EqV Tryz.prog w (d + 2) 113 (.agg a.enc.toArray) (.agg b.enc.toArray) (decide (a = b)) := by
  have h1 : EqV Tryz.prog w (d + 1) 3 (.int .i64 a.id) (.int .i64 b.id) (a.id == b.id) := EqV.int Tryz.underlying3
  have h2 : EqV Tryz.prog w (d + 1) 30 (.int .u64 a.due) (.int .u64 b.due) (a.due == b.due) := EqV.int Tryz.underlying30
  have hd : decide (a = b) = ((a.id == b.id) && ((a.due == b.due) && true)) := by
    obtain ⟨v, l⟩ := a
    obtain ⟨v', l'⟩ := b
    rw [Bool.eq_iff_iff]; simp
  rw [hd]
  refine EqV.struct Tryz.underlying113 (by kernel_rfl) ?_
  refine EqF.cons (by decide) (run_part_one Tryz.underlying3 rfl rfl) (run_part_one Tryz.underlying3 rfl rfl) h1 ?_
  refine EqF.cons (by decide) (run_part_one Tryz.underlying30 rfl rfl) (run_part_one Tryz.underlying30 rfl rfl) h2 ?_
  exact EqF.nil
theorem ent_guard : Tryz.prog.eqGuardType Tryz.prog.depth 113 = false := by kernel_rfl
/-- '==' of two entries, as the walk asks it. -/
theorem ent_eql (a b : Ent) (w : World) : (binOp .eql 113 (.agg a.enc.toArray) (.agg b.enc.toArray)).run Tryz.prog w = .ok (.bool (decide (a = b))) w := by
  rw [run_eql_struct]
  rw [show (Op.equalIn 10000 113 (.agg a.enc.toArray) (.agg b.enc.toArray)).run Tryz.prog w = .ok (decide (a = b)) w from ent_eq 9998 a b]
  rfl
section
variable {B : Nat} {w0 w w' : World} {F : HP} {p q room : Nat} {L S : List Ent}
end
end Go.Proofs.YtepaanpdjadakaaGreatDoor

/-! Two lists of one kind held against each other. -/
namespace Go.Proofs.YtepaanpdjadakaaGreatDoor
open Go Go.RowKit

attribute [local irreducible] wpOrd
end Go.Proofs.YtepaanpdjadakaaGreatDoor

/-! Tables of facts: Names. -/
namespace Go.Proofs.YtepaanpdjadakaaGreatDoor
open Go Go.RowKit

attribute [local irreducible] wpOrd
def namesL (L : List Fct) (a : Adr) : List ByteArray := (L.filter fun f => decide (f.key.adr = a)).map (·.key.name)
theorem namesL_le (L : List Fct) (a : Adr) : (namesL L a).length ≤ L.length := by
  unfold namesL
  rw [List.length_map]
  exact List.length_filter_le _ _
theorem namesL_snoc (L : List Fct) (f : Fct) (a : Adr) : namesL (L ++ [f]) a = if decide (f.key.adr = a) then namesL L a ++ [f.key.name] else namesL L a := by
  unfold namesL
  rw [List.filter_append, List.map_append]
  cases h : decide (f.key.adr = a) <;> simp [h]
theorem str_zero : (Tryz.prog.info? 9).map (fun i => (i.zero, i.size, i.bytes)) = some (some (.string ⟨#[]⟩), 1, 16) := by kernel_rfl
section
variable {B : Nat} {w0 w w' : World} {F X : HP} {R : List (Itm Fk)} {t room : Nat} {next : Int}
end
end Go.Proofs.YtepaanpdjadakaaGreatDoor

/-! Learning, in plain words. -/
namespace Go.Proofs.YtepaanpdjadakaaGreatDoor
open Go Go.RowKit

section
variable {R : List (Itm Fk)} {next : Int}
def isK (k : Fk) (x : Itm Fk) : Bool := decide (x.key = k)
def KNF (R : List (Itm Fk)) : Prop := (R.map (·.key)).Nodup
def upK (R : List (Itm Fk)) (k : Fk) (u : Int) : List (Itm Fk) := R.map fun x => if x.key = k then { x with due := max u x.due } else x
def lrnC (room : Nat) (R : List (Itm Fk)) (k : Fk) : Int := if R.any (isK k) then 0 else if room ≤ R.length then 18 else 0
def lrnR (room : Nat) (R : List (Itm Fk)) (next : Int) (k : Fk) (u : Int) : List (Itm Fk) := if R.any (isK k) then upK R k u else if room ≤ R.length then R else R ++ [⟨k, next, u⟩]
def lrnN (room : Nat) (R : List (Itm Fk)) (next : Int) (k : Fk) : Int := if R.any (isK k) then next else if room ≤ R.length then next else next + 1
theorem upK_due {k : Nat} {x : Itm Fk} (hn : KNF R) (hg : Good R next) (h : R[k]? = some x) (u : Int) : setDue R x.id (max u x.due) = upK R x.key u := by
  unfold setDue upK
  apply List.map_congr_left
  intro y hy
  obtain ⟨j, hj⟩ := List.mem_iff_getElem?.1 hy
  obtain ⟨h1, h2⟩ := List.getElem?_eq_some_iff.1 h
  obtain ⟨h3, h4⟩ := List.getElem?_eq_some_iff.1 hj
  by_cases e : k = j
  · subst e
    rw [h] at hj; cases hj
    simp
  · have hid : y.id ≠ x.id := by
      intro e2
      have := (List.getElem_inj (xs := R.map (·.id)) (i := k) (j := j) (h₀ := by simpa using h1) (h₁ := by simpa using h3) hg.1).1 (by simp only [List.getElem_map]; rw [h2, h4, e2])
      exact e this
    have hky : y.key ≠ x.key := by
      intro e2
      have := (List.getElem_inj (xs := R.map (·.key)) (i := k) (j := j) (h₀ := by simpa using h1) (h₁ := by simpa using h3) (show (R.map (·.key)).Nodup from hn)).1 (by simp only [List.getElem_map]; rw [h2, h4, e2])
      exact e this
    rw [if_neg hid, if_neg hky]
theorem upK_set {k : Nat} {x : Itm Fk} (hn : KNF R) (h : R[k]? = some x) (u : Int) : upK R x.key u = R.set k { x with due := max u x.due } := by
  have hk := (List.getElem?_eq_some_iff.1 h).1
  unfold upK
  apply List.ext_getElem?
  intro j
  rw [List.getElem?_map]
  by_cases e : k = j
  · subst e
    rw [List.getElem?_set_self hk, h]
    simp
  · rw [List.getElem?_set_ne e]
    cases hy : R[j]? with
    | none => rfl
    | some y =>
      have hne : ¬ y.key = x.key := fun h2 => e (by
        have h1 : (R.map (·.key))[k]? = (R.map (·.key))[j]? := by rw [List.getElem?_map, List.getElem?_map, h, hy]; simp [h2]
        exact (List.getElem?_inj (by simpa using hk) (show (R.map (·.key)).Nodup from hn)).1 h1)
      simp [hne]
theorem fcts_set (k : Nat) (x : Itm Fk) : fcts (R.set k x) = (fcts R).set k ⟨x.key, x.due⟩ := by
  unfold fcts
  rw [List.map_set]
theorem setDue_cellsF (id u : Int) : (setDue R id u).flatMap (itmC Fk.enc) = R.flatMap (itmC Fk.enc) := by
  unfold setDue
  rw [List.flatMap_map]
  congr 1
  funext x
  unfold itmC
  split <;> rfl
/-- One fact's end is another one now. -/
theorem set_end : ∀ (l : List Fct) (k : Nat) (f : Fct) (u : Int), l[k]? = some f → (l.flatMap Fct.enc).set (k * 19 + 18) (.int .u64 u) = (l.set k ⟨f.key, u⟩).flatMap Fct.enc := by
  intro l
  induction l with
  | nil => intro k f u h; simp at h
  | cons y l ih =>
    intro k f u h
    cases k with
    | zero =>
      simp only [List.getElem?_cons_zero, Option.some.injEq] at h
      subst h
      rw [List.flatMap_cons, List.set_append_left _ _ (by rw [Fct.enc_length]; omega)]
      rw [List.set_cons_zero, List.flatMap_cons]
      congr 1
      unfold Fct.enc
      rw [List.set_append_right _ _ (by rw [Fk.enc_length]; omega), Fk.enc_length]
      rfl
    | succ k =>
      rw [List.flatMap_cons, List.set_append_right _ _ (by rw [Fct.enc_length]; omega), Fct.enc_length, List.set_cons_succ, List.flatMap_cons]
      congr 1
      rw [show (k + 1) * 19 + 18 - 19 = k * 19 + 18 by omega]
      exact ih k f u (by simpa using h)
theorem KNF.nil : KNF [] := by simp [KNF]
theorem KNF.filter (h : KNF R) (p : Itm Fk → Bool) : KNF (R.filter p) := (List.filter_sublist.map _).nodup h
theorem upK_keys {k : Fk} {u : Int} : (upK R k u).map (·.key) = R.map (·.key) := by
  unfold upK
  rw [List.map_map]
  apply List.map_congr_left
  intro x _
  simp only [Function.comp]
  split <;> rfl
theorem upK_length {k : Fk} {u : Int} : (upK R k u).length = R.length := by simp [upK]
theorem any_keyF {k : Fk} : R.any (isK k) = true ↔ k ∈ R.map (·.key) := by
  rw [List.any_eq_true, List.mem_map]
  constructor
  · rintro ⟨x, hx, h⟩; exact ⟨x, hx, by simpa [isK] using h⟩
  · rintro ⟨x, hx, h⟩; exact ⟨x, hx, by simpa [isK] using h⟩
theorem KNF.add (h : KNF R) (room : Nat) (next : Int) (k : Fk) (u : Int) : KNF (lrnR room R next k u) := by
  unfold lrnR
  cases ha : R.any (isK k)
  · simp only [Bool.false_eq_true, if_false]
    split
    · exact h
    · unfold KNF at *
      rw [List.map_append, List.nodup_append]
      refine ⟨h, by simp, ?_⟩
      intro a ha' b hb
      simp only [List.map_cons, List.map_nil, List.mem_singleton] at hb
      subst hb
      rintro rfl
      rw [any_keyF.2 ha'] at ha
      cases ha
  · simp only [if_true]
    unfold KNF at *
    rw [upK_keys]; exact h
theorem lrnR_le (room : Nat) (R : List (Itm Fk)) (next : Int) (k : Fk) (u : Int) : (lrnR room R next k u).length ≤ R.length + 1 := by
  unfold lrnR
  split
  · simp [upK]
  · split
    · omega
    · simp
theorem lrnN_le (room : Nat) (R : List (Itm Fk)) (next : Int) (k : Fk) : next ≤ lrnN room R next k ∧ lrnN room R next k ≤ next + 1 := by
  unfold lrnN
  split
  · omega
  · split <;> omega
end
end Go.Proofs.YtepaanpdjadakaaGreatDoor

/-! Tables of facts: Learn. -/
namespace Go.Proofs.YtepaanpdjadakaaGreatDoor
open Go Go.RowKit

theorem wpList_eql_want {P : Program} {w : World} {ops : Array Oper} {rest : List Oper} {o : Oper} {a : Act} {Q : Exit → Act → World → Prop} (hw : Region.wanted o (yielded ops a.tmps) = true) {t t' : TypeId} {x y : Operand} (ho : o.op = .binOp .eql t x y t') {xs ys : Array Value} {r : Bool} (hx : a.eval x = .agg xs) (hy : a.eval y = .agg ys)
    (hg : P.eqGuardType P.depth t = false) (hr : EqV P w 10000 t (.agg xs) (.agg ys) r) (h : wpList P ops Q rest (a.put o.dst (.bool r)) w) : wpList P ops Q (o :: rest) a w :=
  BigFrame.wpList_want hw fun _ hK => wp_eql_run ho hx hy hg hr (hK _ _ h)
section
variable {B : Nat} {w0 w w' : World} {F X : HP} {R : List (Itm Fk)} {t room : Nat} {next : Int}
attribute [local irreducible] wpOrd
end
end Go.Proofs.YtepaanpdjadakaaGreatDoor

/-! Slices of whole numbers that came in. -/
namespace Go.Proofs.YtepaanpdjadakaaGreatDoor
open Go Go.RowKit

def IsRow (k : IntKind) (w : World) (a : Option Addr) (len cap : Nat) (zs : List Int) : Prop :=
  (a = none ∧ len = 0 ∧ cap = 0 ∧ zs = []) ∨
  ∃ x, a = some x ∧ len ≤ cap ∧ cap ≤ maxLen ∧ zs.length = cap ∧ (∀ i, i < zs.length → w.cell? (x.add i) = some (.int k (zs.getD i 0))) ∧ ∀ n ∈ zs, (Lit.int k n).wf = true

theorem IsRow.len_le {k : IntKind} {w : World} {a : Option Addr} {len cap : Nat} {zs : List Int} (h : IsRow k w a len cap zs) : len ≤ maxLen := by
  rcases h with ⟨_, rfl, _⟩ | ⟨x, _, h1, h2, _⟩
  · exact Nat.zero_le _
  · omega
theorem IsRow.at_ {k : IntKind} {w : World} {a : Option Addr} {len cap : Nat} {zs : List Int} (h : IsRow k w a len cap zs) {i : Nat} (hi : i < len) :
    ∃ x, a = some x ∧ w.cell? (x.add i) = some (.int k (zs.getD i 0)) ∧ x.block < w.heap.size ∧ (Lit.int k (zs.getD i 0)).wf = true := by
  rcases h with ⟨_, rfl, _⟩ | ⟨x, rfl, h1, h2, h3, h4, h5⟩
  · omega
  · have hc := h4 i (by omega)
    refine ⟨x, rfl, hc, ?_, h5 _ ?_⟩
    · have := World.block_lt_of_cell? _ _ hc
      unfold Addr.add at this
      split at this <;> exact this
    · rw [List.getD_eq_getElem?_getD, List.getElem?_eq_getElem (by omega)]
      exact List.getElem_mem _

theorem IsRow.at' {k : IntKind} {w : World} {a : Option Addr} {len cap : Nat} {zs : List Int} (h : IsRow k w a len cap zs) {i : Nat} (hi : i < len) :
    ∃ x, a = some x ∧ x.block < w.heap.size ∧ ∀ W, Below w.heap.size w W → W.cell? (x.add i) = some (.int k (zs.getD i 0)) := by
  obtain ⟨x, hx, hc, hl, _⟩ := h.at_ hi
  refine ⟨x, hx, hl, fun W hb => ?_⟩
  rw [hb.cell (by unfold Addr.add; split <;> exact hl), hc]
end Go.Proofs.YtepaanpdjadakaaGreatDoor

/-! ExpiryDue's walk. -/
namespace Go.Proofs.YtepaanpdjadakaaGreatDoor
open Go Go.RowKit

theorem load_of_cell {w : World} {p : Addr} {ty : TypeId} {v : Value} {d : TypeDesc} (hu : Tryz.prog.underlying ty = some d) (hd : d.isRow = false) (h : w.cell? p = some v) : (Instr.loadAt ty (.pointer (some p))).run Tryz.prog w = .ok v w := by
  have hagg : (isAgg ty).run Tryz.prog w = .ok false w := by
    unfold isAgg
    rw [Sem.run_bind, run_underlying hu w]
    cases d <;> simp_all
  simp only [Instr.loadAt, Instr.sureAddr, Sem.run_bind, Sem.run_pure, Result.andThen_ok, loadVar, hagg]
  simp [load, Sem.run, h]
theorem cell_of_heap {w : World} {g o : Nat} {cur : Array Value} {t : TypeId} {fr : Nat × Nat} {v : Value} (h : w.heap[g]? = some (.cells cur t fr)) (hv : cur[o]? = some v) : w.cell? ⟨g, o, none⟩ = some v := by
  simp only [World.cell?, h]; exact hv
theorem wf_u64' {n : Int} (h : (Lit.int .u64 n).wf = true) : 0 ≤ n ∧ n ≤ 18446744073709551615 := by
  simp [Lit.wf, IntKind.signed, IntKind.bits, IntKind.min, IntKind.max] at h
  omega
attribute [local irreducible] wpOrd
theorem pair_at {D : List Ent} (h : D.Pairwise (fun a b => a.lt b = true)) {i : Nat} (hi : i + 1 < D.length) : (Hp.g D i).lt (Hp.g D (i + 1)) = true := by
  have e1 : D[i] = Hp.g D i := by rw [← Option.some_inj, ← g_get (by omega), List.getElem?_eq_getElem (by omega)]
  have e2 : D[i + 1] = Hp.g D (i + 1) := by rw [← Option.some_inj, ← g_get (by omega), List.getElem?_eq_getElem (by omega)]
  rw [← e1, ← e2]
  exact (List.pairwise_iff_getElem.1 h) i (i + 1) (by omega) (by omega) (by omega)
end Go.Proofs.YtepaanpdjadakaaGreatDoor

/-! ExpiryFull's walk. -/
namespace Go.Proofs.YtepaanpdjadakaaGreatDoor
open Go Go.RowKit

theorem mod_of (n k : Int) (h0 : 0 < k) (h1 : k ≤ 1000000) : ∃ m : Nat, (m : Int) < k ∧ wrap64 ((IntKind.u64.wrap n).tmod k) = m := by
  have hu : 0 ≤ IntKind.u64.wrap n := by simp only [IntKind.wrap, IntKind.bits, IntKind.signed]; simp; omega
  rw [Int.tmod_eq_emod_of_nonneg hu]
  have h2 := Int.emod_nonneg (IntKind.u64.wrap n) (by omega : k ≠ 0)
  have h3 := Int.emod_lt_of_pos (IntKind.u64.wrap n) h0
  refine ⟨(IntKind.u64.wrap n % k).toNat, by omega, ?_⟩
  rw [IntWalk.wrap64_in _ (by omega)]
  omega
def fz (a : Int) : List Int := List.replicate 50 a
theorem fz_get {a : Int} {k : Nat} (h : k < 50) : (fz a).getD k 0 = a := by
  unfold fz; rw [List.getD_eq_getElem?_getD, List.getElem?_replicate, if_pos h]; rfl
theorem fz_has {a id : Int} {m : Nat} : hasId (entsOf (fz a) m) id = decide (0 ≤ id ∧ id < m) := by
  rw [Bool.eq_iff_iff, decide_eq_true_eq]
  unfold hasId
  rw [List.any_eq_true]
  constructor
  · rintro ⟨x, hx, e⟩
    obtain ⟨i, hi, rfl⟩ := mem_ents.1 hx
    have : (i : Int) = id := by simpa using e
    omega
  · rintro ⟨h1, h2⟩
    exact ⟨_, mem_ents.2 ⟨id.toNat, by omega, rfl⟩, by simp; omega⟩
theorem fz_full {a id : Int} {m : Nat} : pushC m (entsOf (fz a) m) id = (if 0 ≤ id ∧ id < m then 19 else 18) ∧ pushS m (entsOf (fz a) m) id a = entsOf (fz a) m := by
  unfold pushC pushS
  rw [fz_has, entsOf_length]
  by_cases h : 0 ≤ id ∧ id < m
  · simp [h]
  · simp [h]
attribute [local irreducible] wpOrd
end Go.Proofs.YtepaanpdjadakaaGreatDoor
