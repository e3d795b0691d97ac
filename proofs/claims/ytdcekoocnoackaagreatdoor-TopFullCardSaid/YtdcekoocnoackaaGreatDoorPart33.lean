import Derived.Test.YtdcekoocnoackaaGreatDoorPart32
import Derived.Test.YtdcekoocnoackaaGreatDoorPart14
import Derived.Shelf.Abstract
import Derived.IntWalk
import Derived.Test.YtdcekoocnoackaaGreatDoorPart12
import Derived.Test.YtdcekoocnoackaaGreatDoorPart11
import Derived.Test.YtdcekoocnoackaaGreatDoorPart06
import Derived.WalkLawsBesides
import Derived.WalkSpells

/-! Tables of flows: what they hold. -/
namespace Go.Proofs.YtdcekoocnoackaaGreatDoor
open Go Go.RowKit

def flC (x : FIt) : List Value := (flwOf x).enc ++ [.int .i64 x.id]
theorem flC_length (x : FIt) : (flC x).length = 41 := by simp [flC, Flw.enc_length]
theorem flC_id (x : FIt) : (flC x)[40]? = some (.int .i64 x.id) := by
  unfold flC
  rw [List.getElem?_append_right (by rw [Flw.enc_length]; omega), Flw.enc_length]; rfl
theorem flC_flw (x : FIt) (j : Nat) (hj : j < 40) : (flC x)[j]? = (flwOf x).enc[j]? := by
  unfold flC
  rw [List.getElem?_append_left (by rw [Flw.enc_length]; exact hj)]
theorem flC_tup (x : FIt) (j : Nat) (hj : j < 37) : (flC x)[j]? = x.key.tup.enc[j]? := by
  rw [flC_flw x j (by omega), (flwOf x).at0 j hj]; rfl
theorem flC_due (x : FIt) : (flC x)[39]? = some (.int .u64 x.due) := by
  rw [flC_flw x 39 (by omega), (flwOf x).at37 2]; rfl
def ptrC (x : FIt) : List Value := [.pointer (some ⟨x.key.p, 0, none⟩)]
theorem ptrC_length (x : FIt) : (ptrC x).length = 1 := rfl
abbrev itb (x : FIt) : HP := blk x.key.p (.cells (flC x).toArray 153)
/-- The flows themselves, and what else there is. -/
def its : List FIt → HP → HP
  | [], F => F
  | x :: R, F => itb x • its R F
section
variable {B : Nat} {w0 w w' : World} {F G : HP} {R : List FIt} {t room : Nat} {next : Int}
theorem its_app : ∀ (A C : List FIt) (F : HP), its (A ++ C) F = its A (its C F)
  | [], _, _ => rfl
  | x :: A, C, F => by simp only [List.cons_append, its]; rw [its_app A C F]
theorem its_star : ∀ (R : List FIt) (F G : HP), its R (G • F) = G • its R F
  | [], _, _ => rfl
  | x :: R, F, G => by simp only [its]; rw [its_star R F G, star_left_comm]
theorem its_mid {k : Nat} {x : FIt} (h : R[k]? = some x) : its R F = itb x • its (R.take k ++ R.drop (k + 1)) F := by
  obtain ⟨h1, h2⟩ := List.getElem?_eq_some_iff.1 h
  have hs : R = R.take k ++ x :: R.drop (k + 1) := by
    conv => lhs; rw [← List.take_append_drop k R, List.drop_eq_getElem_cons h1, h2]
  conv => lhs; rw [hs]
  rw [its_app, its_app]
  simp only [its]
  rw [its_star]
theorem its_set {k : Nat} {x y : FIt} (h : R[k]? = some x) : its (R.set k y) F = itb y • its (R.take k ++ R.drop (k + 1)) F := by
  have hk := (List.getElem?_eq_some_iff.1 h).1
  rw [its_mid (R := R.set k y) (k := k) (x := y) (List.getElem?_set_self hk)]
  rw [List.take_set_of_le (Nat.le_refl _), List.drop_set_of_lt (by omega)]
theorem Sat.it_heap {k : Nat} {x : FIt} (hk : R[k]? = some x) (h : Sat B w0 w (its R F)) : w.heap[x.key.p]? = some (.cells (flC x).toArray 153) := by
  rw [its_mid hk] at h
  exact h.heap
theorem Sat.its_filter (q : FIt → Bool) : ∀ (R : List FIt) (F : HP), Sat B w0 w (its R F) → Sat B w0 w (its (R.filter q) F)
  | [], F, h => h
  | x :: R, F, h => by
    simp only [its] at h
    rw [List.filter_cons]
    cases hq : q x
    · simp only [Bool.false_eq_true, if_false]
      exact Sat.its_filter q R F h.drop
    · simp only [if_true, its]
      rw [← its_star]
      exact Sat.its_filter q R _ (by rw [its_star]; exact h)
theorem Sat.its_drop : ∀ (R : List FIt) (F : HP), Sat B w0 w (its R F) → Sat B w0 w F
  | [], _, h => h
  | _ :: R, F, h => Sat.its_drop R F (Sat.drop h)
theorem Sat.its_ps : ∀ (R : List FIt) (F : HP), Sat B w0 w (its R F) → (R.map (·.key.p)).Nodup
  | [], _, _ => by simp
  | x :: R, F, h => by
    simp only [its] at h
    have h2 : Sat B w0 w (its R (itb x • F)) := by rw [its_star]; exact h
    rw [List.map_cons, List.nodup_cons]
    refine ⟨?_, Sat.its_ps R _ h2⟩
    intro hm
    obtain ⟨y, hy, e⟩ := List.mem_map.1 hm
    obtain ⟨k, hk⟩ := List.mem_iff_getElem?.1 hy
    rw [its_mid hk] at h
    exact h.ne e.symm
/-- A table of flows. -/
def fltab (t room : Nat) (R : List FIt) (next : Int) : HP := hex fun (x : Value × Nat) => lift (Good R next)
  (blk t (.cells #[x.1, .pointer (some ⟨x.2, 0, none⟩), .int .i64 next] 119) • arr 151 1 x.1 R.length (R.flatMap ptrC) • queue x.2 room (ents R) • its R emp)
theorem emp_in (h : Sat B w0 w F) : Sat B w0 w (emp • F) := h.add_emp.swap
theorem Sat.fl_open (h : Sat B w0 w (fltab t room R next • F)) : ∃ A c q, Good R next ∧ R.length ≤ room ∧ room ≤ 1000 ∧
    Sat B w0 w (blk t (.cells #[.slice A R.length c, .pointer (some ⟨q, 0, none⟩), .int .i64 next] 119) • arr 151 1 (.slice A R.length c) R.length (R.flatMap ptrC) • queue q room (ents R) • its R F) := by
  unfold fltab at h
  rw [hex_star] at h
  obtain ⟨⟨v, q⟩, h⟩ := h.ex
  rw [lift_star] at h
  obtain ⟨hg, h⟩ := h.lift
  rw [star_assoc, star_assoc, star_assoc] at h
  obtain ⟨A, c, hv⟩ := h.pull2.arr_form
  simp only at hv
  subst hv
  obtain ⟨h1, h2⟩ := h.pull3.queue_len
  rw [ents_length] at h1
  refine ⟨A, c, q, hg, h1, h2, ?_⟩
  rw [star_comm (its R emp) F, ← its_star, star_comm F emp, its_star] at h
  exact h.pull4.drop
theorem Sat.fl_shut {v : Value} {q : Nat} (hg : Good R next) (h : Sat B w0 w (blk t (.cells #[v, .pointer (some ⟨q, 0, none⟩), .int .i64 next] 119) • arr 151 1 v R.length (R.flatMap ptrC) • queue q room (ents R) • its R F)) :
    Sat B w0 w (fltab t room R next • F) := by
  unfold fltab
  rw [hex_star]
  refine Sat.ex_mk ((v, q) : Value × Nat) ?_
  rw [lift_star]
  refine Sat.lift_mk hg ?_
  rw [star_assoc, star_assoc, star_assoc]
  rw [star_comm (its R emp) F, ← its_star, star_comm F emp, its_star]
  exact (emp_in h).to (by ac_rfl)
/-- Where a flow is found; nil: nowhere. -/
def ptrAt (R : List FIt) (w : Tup) : Value := match R.find? (isW w) with
  | some x => .pointer (some ⟨x.key.p, 0, none⟩)
  | none => .pointer none
theorem ptrAt_cases (R : List FIt) (w : Tup) : (R.any (isW w) = false ∧ ptrAt R w = .pointer none ∧ ∀ x ∈ R, isW w x = false) ∨
    ∃ (k : Nat) (x : FIt), R[k]? = some x ∧ x.key.tup = w ∧ R.any (isW w) = true ∧ ptrAt R w = .pointer (some ⟨x.key.p, 0, none⟩) := by
  unfold ptrAt
  cases h : R.find? (isW w) with
  | none =>
    rw [List.find?_eq_none] at h
    refine .inl ⟨?_, rfl, fun x hx => by simpa using h x hx⟩
    rw [List.any_eq_false]
    exact h
  | some x =>
    have h1 := List.find?_some h
    have h2 := List.mem_of_find?_eq_some h
    obtain ⟨k, hk⟩ := List.mem_iff_getElem?.1 h2
    exact .inr ⟨k, x, hk, by simpa [isW] using h1, List.any_eq_true.2 ⟨x, h2, h1⟩, rfl⟩
end
end Go.Proofs.YtdcekoocnoackaaGreatDoor

/-! slices.IndexFunc, slices.DeleteFunc at a struct, and a predicate that acts. -/
namespace Go.Proofs.YtdcekoocnoackaaGreatDoor
open Go Go.RowKit

section
variable {B : Nat} {w0 w w' : World} {F : HP} {β : Type} {enc : β → List Value} {p : β → Bool} {l : List β} {g : Nat} {lb : Array Value} {v : Value}
end
end Go.Proofs.YtdcekoocnoackaaGreatDoor

/-! Errors as the help has them; stores of one cell. -/
namespace Go.Proofs.YtdcekoocnoackaaGreatDoor
open Go Go.RowKit

attribute [local irreducible] wpOrd
section
variable {B : Nat} {w0 w w' : World} {F : HP} {b : Nat} {n : Int} {S : List Ent} {v : Value}
def zeroFail : Array Value := #[.int .i64 0, .int .i64 0, .bool false]
theorem one_store {x o : Nat} {cur : Array Value} {t ty : TypeId} {u : Value} (hS : Sat B w0 w (blk x (.cells cur t) • F)) (hi : (Tryz.prog.info? ty).map (·.size) = some 1) (ho : o < cur.size) (hu : u.oneCell' = true) (hc : u.cells = #[u]) :
    ∃ W, (Instr.storeAt ty (.pointer (some ⟨x, o, none⟩)) u).run Tryz.prog w = .ok () W ∧ Sat B w0 W (blk x (.cells (cur.setIfInBounds o u) t) • F) := by
  have hst := run_storeAt_row (P := Tryz.prog) (o := o) (ty := ty) (v := u) hS.heap (by rw [hi, hc]; rfl) (by rw [hc]; simp; omega) (by rw [hc]; simpa using hu)
  have hS2 := hS.setRow (cs := splice cur o u.cells.toList)
  refine ⟨_, hst, ?_⟩
  rw [hc] at hS2 ⊢
  rw [show (#[u] : Array Value).toList = [u] from rfl, splice_one ho] at hS2 ⊢
  exact hS2
end
end Go.Proofs.YtdcekoocnoackaaGreatDoor

/-! drop of a table. -/
namespace Go.Proofs.YtdcekoocnoackaaGreatDoor
open Go Go.RowKit

section
variable {B : Nat} {w0 w w' : World} {F X : HP} {α : Type} {ek : α → List Value} {p : Itm α → Bool} {R : List (Itm α)} {g : Nat} {lb : Array Value} {bi bt t q room : Nat} {next : Int} {v : Value}
def DropAP (bi bt t q room : Nat) (g : Nat) (lb : Array Value) (v : Value) (next : Int) (X : HP) (R : List (Itm α)) (p : Itm α → Bool) (k : Nat) : HP :=
  blk bi (.cells #[.func (.func g) #[] lb] 242) • blk bt (.cells #[.pointer (some ⟨t, 0, none⟩)] 64) • blk t (.cells #[v, .pointer (some ⟨q, 0, none⟩), .int .i64 next] 110) • queue q room (ents (part_ R p k)) • X
/-- What is asked of a predicate. -/
def IsPP (B : Nat) (w0 : World) (ek : α → List Value) (p : Itm α → Bool) (R : List (Itm α)) (g : Nat) (lb : Array Value) (t room : Nat) (next : Int) (X : HP) : Prop :=
  ∀ (v : Value) (q k : Nat) (x : Itm α) (W : World) (G : HP), R[k]? = some x → Good R next → Sat B w0 W (blk t (.cells #[v, .pointer (some ⟨q, 0, none⟩), .int .i64 next] 110) • queue q room (ents (part_ R p k)) • X • G) →
    Calls Tryz.prog g (#[.agg (itmC ek x).toArray] ++ lb) W fun e w' => e = .returned (.bool (p x)) ∧ Below W.heap.size W w'
attribute [local irreducible] wpOrd
end
end Go.Proofs.YtdcekoocnoackaaGreatDoor

/-! Tables of queries: New, Len, place, Has. -/
namespace Go.Proofs.YtdcekoocnoackaaGreatDoor
open Go Go.RowKit

instance {α : Type} [Inhabited α] : Inhabited (Itm α) := ⟨⟨default, 0, 0⟩⟩
abbrev ptab (t room : Nat) (R : List (Itm Qry)) (next : Int) : HP := tab Qry.enc 239 110 40 t room R next
def isQ (q : Qry) (x : Itm Qry) : Bool := decide (x.key = q)
section
variable {B : Nat} {w0 w w' : World} {F X : HP} {R : List (Itm Qry)} {t room : Nat} {next : Int}
end
end Go.Proofs.YtdcekoocnoackaaGreatDoor

/-! Tables of queries: Take, Expire, Keep. -/
namespace Go.Proofs.YtdcekoocnoackaaGreatDoor
open Go Go.RowKit

def late (now : Int) (x : Itm Qry) : Bool := decide (x.due ≤ now)
def away (ss : List Adr) (x : Itm Qry) : Bool := !ss.any fun a => decide (x.key.server = a)
section
variable {B : Nat} {w0 w w' : World} {F X : HP} {R : List (Itm Qry)} {t room : Nat} {next : Int}
attribute [local irreducible] wpOrd
end
end Go.Proofs.YtdcekoocnoackaaGreatDoor

/-! Tables of queries: Contains, Keep. -/
namespace Go.Proofs.YtdcekoocnoackaaGreatDoor
open Go Go.RowKit

section
variable {B : Nat} {w0 w w' : World} {F X : HP} {R : List (Itm Qry)} {t room : Nat} {next : Int}
attribute [local irreducible] wpOrd
end
end Go.Proofs.YtdcekoocnoackaaGreatDoor

/-! Tables of queries: All. -/
namespace Go.Proofs.YtdcekoocnoackaaGreatDoor
open Go Go.RowKit

section
variable {B : Nat} {w0 w w' : World} {F X : HP} {R : List (Itm Qry)} {t room : Nat} {next : Int}
end
end Go.Proofs.YtdcekoocnoackaaGreatDoor

/-! Tables of queries: Add. -/
namespace Go.Proofs.YtdcekoocnoackaaGreatDoor
open Go Go.RowKit

section
variable {B : Nat} {w0 w w' : World} {F X : HP} {R : List (Itm Qry)} {t room : Nat} {next : Int}
def KN (R : List (Itm Qry)) : Prop := (R.map (·.key)).Nodup
def setKey (R : List (Itm Qry)) (q : Qry) (u : Int) : List (Itm Qry) := R.map fun x => if x.key = q then { x with due := u } else x
def addC (room : Nat) (R : List (Itm Qry)) (q : Qry) : Int := if R.any (isQ q) then 0 else if room ≤ R.length then 18 else 0
def addR (room : Nat) (R : List (Itm Qry)) (next : Int) (q : Qry) (u : Int) : List (Itm Qry) := if R.any (isQ q) then setKey R q u else if room ≤ R.length then R else R ++ [⟨q, next, u⟩]
def addN (room : Nat) (R : List (Itm Qry)) (next : Int) (q : Qry) : Int := if R.any (isQ q) then next else if room ≤ R.length then next else next + 1
theorem splice_two {z : Array Value} {a b : List Value} (hz : z.size = a.length + b.length) : splice (splice z 0 a) a.length b = (a ++ b).toArray := by
  have h1 : (splice z 0 a).toList.take a.length = a := by
    unfold splice
    simp only [List.take_zero, List.nil_append, Nat.zero_add]
    rw [List.take_left']; rfl
  have h2 : (splice z 0 a).size = z.size := splice_size (by omega)
  unfold splice at h1 h2 ⊢
  rw [h1, List.drop_of_length_le, List.append_nil]
  simp only [List.size_toArray] at h2
  simp only [List.take_zero, List.nil_append, Nat.zero_add] at h2 ⊢
  omega
attribute [local irreducible] wpOrd
end
end Go.Proofs.YtdcekoocnoackaaGreatDoor

/-! awake of layer 23. -/
namespace Go.Proofs.YtdcekoocnoackaaGreatDoor
open Go Go.RowKit

def zAdr : Adr := ⟨false, List.replicate 16 0, rfl⟩
/-- A query of which there is but the number. -/
def qid (i : Int) : Qry := ⟨zAdr, zAdr, 0, i, false, ⟨⟨#[]⟩, 0, 0⟩⟩
theorem KN.nil : KN [] := by simp [KN]
theorem KN.filter {R : List (Itm Qry)} (h : KN R) (p : Itm Qry → Bool) : KN (R.filter p) := (List.filter_sublist.map _).nodup h
theorem setKey_keys {R : List (Itm Qry)} {q : Qry} {u : Int} : (setKey R q u).map (·.key) = R.map (·.key) := by
  unfold setKey
  rw [List.map_map]
  apply List.map_congr_left
  intro x _
  simp only [Function.comp]
  split <;> rfl
theorem any_key {R : List (Itm Qry)} {q : Qry} : R.any (isQ q) = true ↔ q ∈ R.map (·.key) := by
  rw [List.any_eq_true, List.mem_map]
  constructor
  · rintro ⟨x, hx, h⟩; exact ⟨x, hx, by simpa [isQ] using h⟩
  · rintro ⟨x, hx, h⟩; exact ⟨x, hx, by simpa [isQ] using h⟩
theorem KN.add {R : List (Itm Qry)} (h : KN R) (room : Nat) (next : Int) (q : Qry) (u : Int) : KN (addR room R next q u) := by
  unfold addR
  cases ha : R.any (isQ q)
  · simp only [Bool.false_eq_true, if_false]
    split
    · exact h
    · unfold KN at *
      rw [List.map_append, List.nodup_append]
      refine ⟨h, by simp, ?_⟩
      intro a ha' b hb
      simp only [List.map_cons, List.map_nil, List.mem_singleton] at hb
      subst hb
      rintro rfl
      rw [any_key.2 ha'] at ha
      cases ha
  · simp only [if_true]
    unfold KN at *
    rw [setKey_keys]; exact h
section
variable {B : Nat} {w0 w w' : World} {F X : HP} {R : List (Itm Qry)} {t room : Nat} {next : Int}
end
end Go.Proofs.YtdcekoocnoackaaGreatDoor

/-! Flows: New, Len, has, Begins, Sum, lasts. -/
namespace Go.Proofs.YtdcekoocnoackaaGreatDoor
open Go Go.RowKit

theorem flNew_any {B : Nat} {w0 w : World} {F : HP} (n : Int) (h : Sat B w0 w F) : Calls Tryz.prog 19 #[.int .i64 n] w fun e w' => ∃ t, e = .returned (.pointer (some ⟨t, 0, none⟩)) ∧ Sat B w0 w' (fltab t (roomOf n) [] 0 • F) := by
  have c1 := qNew_any n h
  clear h
  go_enter Tryz.func19, Tryz.ntmps19
  go_wp2_with fail
  refine c1.mono ?_
  rintro e w1 ⟨q, rfl, hS1⟩
  have hS2 := arr_nil (e := 151) (sz := 1) (hS1.alloc (.cells #[.slice none 0 0, .pointer (some ⟨q, 0, none⟩), .int .i64 0] 119))
  have HS := Lib.hid (Sat.fl_shut (R := []) Good.nil hS2.pull2)
  clear c1 hS1 hS2
  go_wp2_with fail
  go_ret
  exact ⟨_, rfl, HS.out⟩
theorem flLen_any {B : Nat} {w0 w : World} {F : HP} {R : List FIt} {t room : Nat} {next : Int} (h : Sat B w0 w (fltab t room R next • F)) : Calls Tryz.prog 155 #[.pointer (some ⟨t, 0, none⟩)] w fun e w' => e = .returned (.int .i64 R.length) ∧ w = w' := by
  obtain ⟨A, c, q, hg, hl1, hl2, hT⟩ := h.fl_open
  have d1 : w.cell? ⟨t, 0, none⟩ = some (.slice A R.length c) := cell_heap hT.heap rfl
  clear hT h
  go_enter Tryz.func155, Tryz.ntmps155
  go_wp2_with fail
  go_ret
  exact ⟨rfl, rfl⟩
theorem has_any (f m : Int) (w : World) : Calls Tryz.prog 224 #[.int .i64 f, .int .i64 m] w fun e w' => e = .returned (.bool (hasF f m)) ∧ w = w' := by
  unfold hasF
  go_enter Tryz.func224, Tryz.ntmps224
  go_wp2_with fail
  go_ret
  exact ⟨rfl, rfl⟩
set_option maxRecDepth 8000 in
set_option maxHeartbeats 1000000 in
theorem begins_any (p f : Int) (w : World) : Calls Tryz.prog 154 #[.int .i64 p, .int .i64 f] w fun e w' => e = .returned (.bool (beginsF p f)) ∧ w = w' := by
  by_cases h6 : p = 6
  · subst h6
    have hr : beginsF 6 f = (hasF f 2 && !hasF f 21) := by unfold beginsF; rw [if_pos rfl]
    rw [hr]
    clear hr
    cases h2 : hasF f 2 with
    | false =>
      have c1 := has_any f 2 w
      rw [h2] at c1
      go_enter Tryz.func154, Tryz.ntmps154
      go_wp2_with fail
      refine c1.mono ?_
      rintro e w1 ⟨rfl, rfl⟩
      go_wp2_with fail
      go_ret
      exact ⟨rfl, rfl⟩
    | true =>
      have c1 := has_any f 2 w
      rw [h2] at c1
      have c2 := has_any f 21 w
      generalize hasF f 21 = b at *
      go_enter Tryz.func154, Tryz.ntmps154
      go_wp2_with fail
      refine c1.mono ?_
      rintro e w1 ⟨rfl, rfl⟩
      go_wp2_with fail
      refine c2.mono ?_
      rintro e w2 ⟨rfl, rfl⟩
      cases b <;> (go_wp2_with fail; go_ret; exact ⟨rfl, rfl⟩)
  · have e6 : (p == 6) = false := by simpa using h6
    have hr : beginsF p f = (decide (p = 17) || decide (p = 1) || decide (p = 58)) := by unfold beginsF; rw [if_neg h6]
    rw [hr]
    clear hr h6
    by_cases h17 : p = 17
    · subst h17
      go_enter Tryz.func154, Tryz.ntmps154
      go_wp2_with fail
      go_ret
      exact ⟨rfl, rfl⟩
    · have e17 : (p == 17) = false := by simpa using h17
      rw [decide_eq_false h17]
      clear h17
      by_cases h1 : p = 1
      · subst h1
        go_enter Tryz.func154, Tryz.ntmps154
        go_wp2_with fail
        go_ret
        exact ⟨rfl, rfl⟩
      · have e1 : (p == 1) = false := by simpa using h1
        rw [decide_eq_false h1]
        clear h1
        by_cases h58 : p = 58
        · subst h58
          go_enter Tryz.func154, Tryz.ntmps154
          go_wp2_with fail
          go_ret
          exact ⟨rfl, rfl⟩
        · have e58 : (p == 58) = false := by simpa using h58
          rw [decide_eq_false h58]
          clear h58
          go_enter Tryz.func154, Tryz.ntmps154
          go_wp2_with fail
          go_ret
          exact ⟨rfl, rfl⟩
theorem sum_any (now n : Int) (w : World) (h0 : 0 ≤ now) (h1 : now ≤ 18446744073709551615) (h2 : 0 ≤ n) (h3 : n ≤ 18446744073709551615) :
    Calls Tryz.prog 101 #[.int .u64 now, .int .u64 n] w fun e w' => e = .returned (.int .u64 (aft now n)) ∧ w' = w := by
  by_cases h : n > 18446744073709551615 - now
  · rw [aft_yes h]
    go_enter Tryz.func101, Tryz.ntmps101
    go_wp2
    all_goals go_ret
    all_goals exact ⟨rfl, rfl⟩
  · rw [aft_no h]
    go_enter Tryz.func101, Tryz.ntmps101
    go_wp2
    all_goals go_ret
    all_goals exact ⟨rfl, rfl⟩
set_option maxRecDepth 8000 in
set_option maxHeartbeats 2000000 in
theorem lasts_any (f : Flw) (w : World) : Calls Tryz.prog 225 #[.agg f.enc.toArray] w fun e w' => e = .returned (.int .u64 (lastsF f.tup.proto f.st)) ∧ Below w.heap.size w w' := by
  have hX := (Sat.start w).alloc (.cells f.enc.toArray 149)
  have d37 : (w.alloc (.cells f.enc.toArray 149)).cell? ⟨w.heap.size, 37, none⟩ = some (.int .i64 f.st) := cell_heap hX.heap (by simpa using f.at37 0)
  have d34 : (w.alloc (.cells f.enc.toArray 149)).cell? ⟨w.heap.size, 34, none⟩ = some (.int .i64 f.tup.proto) := cell_heap hX.heap (by rw [List.getElem?_toArray, f.at0 34 (by decide)]; exact f.tup.at34 0)
  have hB := hX.below
  generalize f.enc.toArray = Y at *
  generalize f.st = s at *
  generalize f.tup.proto = p at *
  clear hX
  unfold lastsF
  by_cases h1 : s = 1
  · subst h1
    rw [if_pos rfl]
    go_enter Tryz.func225, Tryz.ntmps225
    go_wp2_with fail
    go_ret
    exact ⟨rfl, hB⟩
  · have e1 : (s == 1) = false := by simpa using h1
    by_cases h2 : s = 2
    · subst h2
      rw [if_neg (by decide), if_pos rfl]
      go_enter Tryz.func225, Tryz.ntmps225
      go_wp2_with fail
      go_ret
      exact ⟨rfl, hB⟩
    · have e2 : (s == 2) = false := by simpa using h2
      by_cases h3 : s = 3
      · subst h3
        rw [if_neg (by decide), if_neg (by decide), if_pos rfl]
        go_enter Tryz.func225, Tryz.ntmps225
        go_wp2_with fail
        go_ret
        exact ⟨rfl, hB⟩
      · have e3 : (s == 3) = false := by simpa using h3
        by_cases h4 : s = 4
        · subst h4
          rw [if_neg (by decide), if_neg (by decide), if_neg (by decide), if_pos rfl]
          go_enter Tryz.func225, Tryz.ntmps225
          go_wp2_with fail
          go_ret
          exact ⟨rfl, hB⟩
        · have e4 : (s == 4) = false := by simpa using h4
          by_cases h5 : s = 5
          · subst h5
            rw [if_neg (by decide), if_neg (by decide), if_neg (by decide), if_neg (by decide), if_pos rfl]
            go_enter Tryz.func225, Tryz.ntmps225
            go_wp2_with fail
            go_ret
            exact ⟨rfl, hB⟩
          · have e5 : (s == 5) = false := by simpa using h5
            rw [if_neg h1, if_neg h2, if_neg h3, if_neg h4, if_neg h5]
            clear h1 h2 h3 h4 h5
            by_cases h17 : p = 17
            · subst h17
              rw [if_pos rfl]
              by_cases h6 : s = 6
              · subst h6
                rw [if_pos rfl]
                go_enter Tryz.func225, Tryz.ntmps225
                go_wp2_with fail
                go_ret
                exact ⟨rfl, hB⟩
              · have e6 : (s == 6) = false := by simpa using h6
                rw [if_neg h6]
                go_enter Tryz.func225, Tryz.ntmps225
                go_wp2_with fail
                go_ret
                exact ⟨rfl, hB⟩
            · have e17 : (p == 17) = false := by simpa using h17
              have n17 : (p != 17) = true := by simpa using h17
              rw [if_neg h17]
              go_enter Tryz.func225, Tryz.ntmps225
              go_wp2_with fail
              go_ret
              exact ⟨rfl, hB⟩
end Go.Proofs.YtdcekoocnoackaaGreatDoor
