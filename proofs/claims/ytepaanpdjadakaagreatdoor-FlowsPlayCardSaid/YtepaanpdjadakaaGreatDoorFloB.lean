import Derived.Test.YtepaanpdjadakaaGreatDoorBaseP
import Derived.Test.YtepaanpdjadakaaGreatDoorTabP
import Derived.Test.YtepaanpdjadakaaGreatDoorAft
import Derived.Test.YtepaanpdjadakaaGreatDoorTab
import Derived.WalkLawsBesides
import Derived.WalkSpells
import Derived.LaidEqlPtr

/-! Ways and flows. -/
namespace Go.Proofs.YtepaanpdjadakaaGreatDoor
open Go Go.RowKit

structure Tup where
  src : Adr
  dst : Adr
  proto : Int
  sp : Int
  dp : Int
  deriving DecidableEq
instance : Inhabited Tup := ⟨⟨default, default, 0, 0, 0⟩⟩
def Tup.enc (t : Tup) : List Value := t.src.enc ++ (t.dst.enc ++ [.int .i64 t.proto, .int .i64 t.sp, .int .i64 t.dp])
abbrev Tup.enc_sz : Nat := 37
theorem Tup.enc_length (t : Tup) : t.enc.length = 37 := by simp [Tup.enc, Adr.enc_length]
theorem Tup.enc_one (t : Tup) : ∀ u ∈ t.enc, u.oneCell' = true := by
  intro u hu
  simp only [Tup.enc, List.mem_append, List.mem_cons, List.not_mem_nil, or_false] at hu
  rcases hu with h | h | rfl | rfl | rfl
  · exact t.src.enc_one u h
  · exact t.dst.enc_one u h
  all_goals rfl
structure Flw where
  tup : Tup
  st : Int
  fin : Int
  due : Int
  deriving DecidableEq
instance : Inhabited Flw := ⟨⟨default, 0, 0, 0⟩⟩
def Flw.enc (f : Flw) : List Value := f.tup.enc ++ [.int .i64 f.st, .int .i64 f.fin, .int .u64 f.due]
abbrev Flw.enc_sz : Nat := 40
theorem Flw.enc_length (f : Flw) : f.enc.length = 40 := by simp [Flw.enc, Tup.enc_length]
theorem Flw.enc_one (f : Flw) : ∀ u ∈ f.enc, u.oneCell' = true := by
  intro u hu
  simp only [Flw.enc, List.mem_append, List.mem_cons, List.not_mem_nil, or_false] at hu
  rcases hu with h | rfl | rfl | rfl
  · exact f.tup.enc_one u h
  all_goals rfl
theorem Tup.part0 (q : Tup) : (q.enc.drop 0).take q.src.enc.length = q.src.enc := by
  rw [List.drop_zero, Tup.enc, List.take_left']; rfl
theorem Tup.part17 (q : Tup) : (q.enc.drop 17).take q.dst.enc.length = q.dst.enc := by
  rw [Tup.enc, List.drop_left' (Adr.enc_length _), List.take_left']; rfl
theorem Tup.drop34 (q : Tup) : q.enc.drop 34 = [.int .i64 q.proto, .int .i64 q.sp, .int .i64 q.dp] := by
  rw [show (34 : Nat) = 17 + 17 from rfl, ← List.drop_drop, Tup.enc, List.drop_left' (Adr.enc_length _), List.drop_left' (Adr.enc_length _)]
theorem Tup.at34 (q : Tup) (j : Nat) : q.enc[34 + j]? = ([.int .i64 q.proto, .int .i64 q.sp, .int .i64 q.dp] : List Value)[j]? := by
  rw [← Tup.drop34, List.getElem?_drop]
theorem Tup.at0 (q : Tup) (j : Nat) (hj : j < 17) : q.enc[j]? = q.src.enc[j]? := by
  have h := q.part0
  rw [← h, List.getElem?_take, if_pos (by rw [Adr.enc_length]; exact hj), List.drop_zero]
theorem Tup.at17 (q : Tup) (j : Nat) (hj : j < 17) : q.enc[17 + j]? = q.dst.enc[j]? := by
  have h := q.part17
  rw [← h, List.getElem?_take, if_pos (by rw [Adr.enc_length]; exact hj), List.getElem?_drop]
theorem Flw.part0 (f : Flw) : (f.enc.drop 0).take f.tup.enc.length = f.tup.enc := by
  rw [List.drop_zero, Flw.enc, List.take_left']; rfl
theorem Flw.drop37 (f : Flw) : f.enc.drop 37 = [.int .i64 f.st, .int .i64 f.fin, .int .u64 f.due] := by
  rw [Flw.enc, List.drop_left' (Tup.enc_length _)]
theorem Flw.at37 (f : Flw) (j : Nat) : f.enc[37 + j]? = ([.int .i64 f.st, .int .i64 f.fin, .int .u64 f.due] : List Value)[j]? := by
  rw [← Flw.drop37, List.getElem?_drop]
theorem Flw.at0 (f : Flw) (j : Nat) (hj : j < 37) : f.enc[j]? = f.tup.enc[j]? := by
  have h := f.part0
  rw [← h, List.getElem?_take, if_pos (by rw [Tup.enc_length]; exact hj), List.drop_zero]
theorem tup_eq {w : World} (d : Nat) (a b : Tup) : EqV Tryz.prog w (d + 4) 37 (.agg a.enc.toArray) (.agg b.enc.toArray) (decide (a = b)) := by
  have hd : decide (a = b) = (decide (a.src = b.src) && (decide (a.dst = b.dst) && ((a.proto == b.proto) && ((a.sp == b.sp) && ((a.dp == b.dp) && true))))) := by
    obtain ⟨a1, a2, a3, a4, a5⟩ := a
    obtain ⟨b1, b2, b3, b4, b5⟩ := b
    rw [Bool.eq_iff_iff]; simp
  rw [hd]
  refine EqV.struct Tryz.underlying37 (by kernel_rfl) ?_
  refine EqF.cons (by decide) (run_part_row Tryz.underlying35 rfl (by rw [Adr.enc_length]; kernel_rfl) a.part0) (run_part_row Tryz.underlying35 rfl (by rw [Adr.enc_length]; kernel_rfl) b.part0) (adr_eq d _ _) ?_
  refine EqF.cons (by decide) (run_part_row Tryz.underlying35 rfl (by rw [Adr.enc_length]; kernel_rfl) a.part17) (run_part_row Tryz.underlying35 rfl (by rw [Adr.enc_length]; kernel_rfl) b.part17) (adr_eq d _ _) ?_
  refine EqF.cons (by decide) (run_part_one Tryz.underlying3 rfl (a.at34 0)) (run_part_one Tryz.underlying3 rfl (b.at34 0)) (EqV.int Tryz.underlying3) ?_
  refine EqF.cons (by decide) (run_part_one Tryz.underlying3 rfl (a.at34 1)) (run_part_one Tryz.underlying3 rfl (b.at34 1)) (EqV.int Tryz.underlying3) ?_
  refine EqF.cons (by decide) (run_part_one Tryz.underlying3 rfl (a.at34 2)) (run_part_one Tryz.underlying3 rfl (b.at34 2)) (EqV.int Tryz.underlying3) ?_
  exact EqF.nil
theorem flw_eq {w : World} (d : Nat) (a b : Flw) : EqV Tryz.prog w (d + 5) 55 (.agg a.enc.toArray) (.agg b.enc.toArray) (decide (a = b)) := by
  have hd : decide (a = b) = (decide (a.tup = b.tup) && ((a.st == b.st) && ((a.fin == b.fin) && ((a.due == b.due) && true)))) := by
    obtain ⟨a1, a2, a3, a4⟩ := a
    obtain ⟨b1, b2, b3, b4⟩ := b
    rw [Bool.eq_iff_iff]; simp
  rw [hd]
  refine EqV.struct Tryz.underlying55 (by kernel_rfl) ?_
  refine EqF.cons (by decide) (run_part_row Tryz.underlying37 rfl (by rw [Tup.enc_length]; kernel_rfl) a.part0) (run_part_row Tryz.underlying37 rfl (by rw [Tup.enc_length]; kernel_rfl) b.part0) (tup_eq d _ _) ?_
  refine EqF.cons (by decide) (run_part_one Tryz.underlying3 rfl (a.at37 0)) (run_part_one Tryz.underlying3 rfl (b.at37 0)) (EqV.int Tryz.underlying3) ?_
  refine EqF.cons (by decide) (run_part_one Tryz.underlying3 rfl (a.at37 1)) (run_part_one Tryz.underlying3 rfl (b.at37 1)) (EqV.int Tryz.underlying3) ?_
  refine EqF.cons (by decide) (run_part_one Tryz.underlying30 rfl (a.at37 2)) (run_part_one Tryz.underlying30 rfl (b.at37 2)) (EqV.int Tryz.underlying30) ?_
  exact EqF.nil
end Go.Proofs.YtepaanpdjadakaaGreatDoor

/-! Flows, in plain words. -/
namespace Go.Proofs.YtepaanpdjadakaaGreatDoor
open Go Go.RowKit

def hasF (flags m : Int) : Bool := bits .and .i64 flags m != 0
def beginsF (proto flags : Int) : Bool := if proto = 6 then hasF flags 2 && !hasF flags 21 else decide (proto = 17) || decide (proto = 1) || decide (proto = 58)
def lastsF (proto st : Int) : Int := if st = 1 then 30 else if st = 2 then 30 else if st = 3 then 3600 else if st = 4 then 60 else if st = 5 then 60 else if proto = 17 then (if st = 6 then 30 else 180) else 30
theorem lastsF_bd (proto st : Int) : 0 ≤ lastsF proto st ∧ lastsF proto st ≤ 18446744073709551615 := by
  unfold lastsF
  repeat' split
  all_goals omega
/-- A state, and who closed first. -/
structure Ph where
  st : Int
  fin : Int
  deriving DecidableEq
def answersF (flags : Int) : Bool := hasF flags 2 && (hasF flags 16 && !hasF flags 1)
def firstF (flags : Int) : Bool := hasF flags 2 && !hasF flags 17
def closesF (p : Ph) (side flags : Int) : Ph := if hasF flags 1 then ⟨4, side⟩ else p
def openingF (p : Ph) (side flags : Int) : Bool × Ph :=
  if side = 1 then (if answersF flags then (true, ⟨2, p.fin⟩) else (false, p))
  else if firstF flags then (true, p)
  else if p.st = 1 then (false, p)
  else if hasF flags 2 then (false, p)
  else if hasF flags 16 then (true, closesF ⟨3, p.fin⟩ side flags)
  else (false, p)
def openF (p : Ph) (side flags : Int) : Bool × Bool × Ph :=
  if hasF flags 2 then (false, false, p)
  else if p.st = 3 then (true, false, closesF p side flags)
  else if p.st = 4 ∧ hasF flags 1 = true ∧ side ≠ p.fin then (true, false, ⟨5, p.fin⟩)
  else if p.st = 5 then (true, hasF flags 16 && (!hasF flags 1 && decide (side = p.fin)), p)
  else (true, false, p)
def seeF (proto : Int) (p : Ph) (side flags : Int) : Bool × Bool × Ph :=
  if proto = 6 then
    (if hasF flags 4 then (if p.st ≠ 1 ∨ side = 0 ∨ hasF flags 16 = true then (true, true, p) else (false, false, p))
    else if p.st = 1 ∨ p.st = 2 then ((openingF p side flags).1, false, (openingF p side flags).2)
    else openF p side flags)
  else if side = 1 then (true, false, ⟨7, p.fin⟩) else (true, false, p)

structure Fky where
  p : Nat
  tup : Tup
  ph : Ph
abbrev FIt := Itm Fky
def flwOf (x : FIt) : Flw := ⟨x.key.tup, x.key.ph.st, x.key.ph.fin, x.due⟩
def isW (w : Tup) (x : FIt) : Bool := decide (x.key.tup = w)
def KNW (R : List FIt) : Prop := (R.map (·.key.tup)).Nodup
/-- One flow noted anew. -/
def noteR (R : List FIt) (id : Int) (ph : Ph) (u : Int) : List FIt := R.map fun x => if x.id = id then ⟨{ x.key with ph := ph }, x.id, u⟩ else x
section
variable {R : List FIt} {next : Int}
theorem noteR_ents (id : Int) (ph : Ph) (u : Int) : ents (noteR R id ph u) = withDue (ents R) id u := by
  unfold ents noteR withDue
  rw [List.map_map, List.map_map]
  apply List.map_congr_left
  intro x _
  simp only [Function.comp]
  by_cases e : x.id = id
  · simp [e]
  · simp [e]
theorem noteR_ids (id : Int) (ph : Ph) (u : Int) : (noteR R id ph u).map (·.id) = R.map (·.id) := by
  unfold noteR
  rw [List.map_map]
  apply List.map_congr_left
  intro x _
  simp only [Function.comp]
  split <;> rfl
theorem noteR_tups (id : Int) (ph : Ph) (u : Int) : (noteR R id ph u).map (·.key.tup) = R.map (·.key.tup) := by
  unfold noteR
  rw [List.map_map]
  apply List.map_congr_left
  intro x _
  simp only [Function.comp]
  split <;> rfl
theorem noteR_ps (id : Int) (ph : Ph) (u : Int) : (noteR R id ph u).map (·.key.p) = R.map (·.key.p) := by
  unfold noteR
  rw [List.map_map]
  apply List.map_congr_left
  intro x _
  simp only [Function.comp]
  split <;> rfl
theorem noteR_length (id : Int) (ph : Ph) (u : Int) : (noteR R id ph u).length = R.length := by simp [noteR]
theorem Good.noteR (h : Good R next) (id : Int) (ph : Ph) (u : Int) : Good (noteR R id ph u) next := by
  refine ⟨by rw [noteR_ids]; exact h.1, fun x hx => ?_⟩
  have : x.id ∈ (YtepaanpdjadakaaGreatDoor.noteR R id ph u).map (·.id) := List.mem_map.2 ⟨x, hx, rfl⟩
  rw [noteR_ids] at this
  obtain ⟨y, hy, e⟩ := List.mem_map.1 this
  rw [← e]; exact h.2 y hy
theorem noteR_set {k : Nat} {x : FIt} (hg : Good R next) (h : R[k]? = some x) (ph : Ph) (u : Int) : noteR R x.id ph u = R.set k ⟨{ x.key with ph := ph }, x.id, u⟩ := by
  have hk := (List.getElem?_eq_some_iff.1 h).1
  unfold noteR
  apply List.ext_getElem?
  intro j
  rw [List.getElem?_map]
  by_cases e : k = j
  · subst e
    rw [List.getElem?_set_self hk, h]
    simp
  · rw [List.getElem?_set_ne e]
    cases hy : R[j]? with
    | none => rfl
    | some y =>
      have hne : ¬ y.id = x.id := fun h2 => e (by
        have h1 : (R.map (·.id))[k]? = (R.map (·.id))[j]? := by rw [List.getElem?_map, List.getElem?_map, h, hy]; simp [h2]
        exact (List.getElem?_inj (by simpa using hk) hg.1).1 h1)
      simp [hne]
/-- What begins. -/
def begC (room : Nat) (R : List FIt) (w : Tup) (flags : Int) : Int := if beginsF w.proto flags then (if R.any (isW w) then 19 else if room ≤ R.length then 18 else 0) else 1
def begP (w : Tup) : Ph := ⟨if w.proto = 6 then 1 else 6, 0⟩
def begU (w : Tup) (now : Int) : Int := aft now (lastsF w.proto (begP w).st)
theorem KNW.nil : KNW [] := by simp [KNW]
theorem KNW.filter (h : KNW R) (p : FIt → Bool) : KNW (R.filter p) := (List.filter_sublist.map _).nodup h
theorem KNW.note (h : KNW R) (id : Int) (ph : Ph) (u : Int) : KNW (noteR R id ph u) := by unfold KNW; rw [noteR_tups]; exact h
theorem any_tup {w : Tup} : R.any (isW w) = true ↔ w ∈ R.map (·.key.tup) := by
  rw [List.any_eq_true, List.mem_map]
  constructor
  · rintro ⟨x, hx, h⟩; exact ⟨x, hx, by simpa [isW] using h⟩
  · rintro ⟨x, hx, h⟩; exact ⟨x, hx, by simpa [isW] using h⟩
theorem KNW.add (h : KNW R) {w : Tup} (ha : R.any (isW w) = false) (p : Nat) (ph : Ph) (id u : Int) : KNW (R ++ [⟨⟨p, w, ph⟩, id, u⟩]) := by
  unfold KNW at *
  rw [List.map_append, List.nodup_append]
  refine ⟨h, by simp, ?_⟩
  intro a ha' b hb
  simp only [List.map_cons, List.map_nil, List.mem_singleton] at hb
  subst hb
  rintro rfl
  rw [any_tup.2 ha'] at ha
  cases ha
end
end Go.Proofs.YtepaanpdjadakaaGreatDoor

/-! Tables of flows: what they hold. -/
namespace Go.Proofs.YtepaanpdjadakaaGreatDoor
open Go Go.RowKit

def flC (x : FIt) : List Value := (flwOf x).enc ++ [.int .i64 x.id]
theorem flC_length (x : FIt) : (flC x).length = 41 := by simp [flC, Flw.enc_length]
theorem flC_one (x : FIt) : ∀ u ∈ flC x, u.oneCell' = true := by
  intro u hu
  simp only [flC, List.mem_append, List.mem_singleton] at hu
  rcases hu with hu | rfl
  · exact (flwOf x).enc_one u hu
  · rfl
theorem flC_id (x : FIt) : (flC x)[40]? = some (.int .i64 x.id) := by
  unfold flC
  rw [List.getElem?_append_right (by rw [Flw.enc_length]; omega), Flw.enc_length]; rfl
theorem flC_flw (x : FIt) (j : Nat) (hj : j < 40) : (flC x)[j]? = (flwOf x).enc[j]? := by
  unfold flC
  rw [List.getElem?_append_left (by rw [Flw.enc_length]; exact hj)]
theorem flC_tup (x : FIt) (j : Nat) (hj : j < 37) : (flC x)[j]? = x.key.tup.enc[j]? := by
  rw [flC_flw x j (by omega), (flwOf x).at0 j hj]; rfl
theorem flC_due (x : FIt) : (flC x)[39]? = some (.int .u64 x.due) := by
  rw [flC_flw x 39 (by omega), (flwOf x).at37 2]; rfl
theorem flC_st (x : FIt) : (flC x)[37]? = some (.int .i64 x.key.ph.st) := by
  rw [flC_flw x 37 (by omega), (flwOf x).at37 0]; rfl
def ptrC (x : FIt) : List Value := [.pointer (some ⟨x.key.p, 0, none⟩)]
theorem ptrC_length (x : FIt) : (ptrC x).length = 1 := rfl
theorem ptrC_one (R : List FIt) : ∀ u ∈ R.flatMap ptrC, u.oneCell' = true := by
  intro u hu
  obtain ⟨x, _, hx⟩ := List.mem_flatMap.1 hu
  simp only [ptrC, List.mem_cons, List.not_mem_nil, or_false] at hx
  rw [hx]; rfl
abbrev itb (x : FIt) : HP := blk x.key.p (.cells (flC x).toArray 72)
/-- The flows themselves, and what else there is. -/
def its : List FIt → HP → HP
  | [], F => F
  | x :: R, F => itb x • its R F
section
variable {B : Nat} {w0 w w' : World} {F G : HP} {R : List FIt} {t room : Nat} {next : Int}
theorem its_app : ∀ (A C : List FIt) (F : HP), its (A ++ C) F = its A (its C F)
  | [], _, _ => rfl
  | x :: A, C, F => by simp only [List.cons_append, its]; rw [its_app A C F]
theorem its_star : ∀ (R : List FIt) (F G : HP), its R (G • F) = G • its R F
  | [], _, _ => rfl
  | x :: R, F, G => by simp only [its]; rw [its_star R F G, star_left_comm]
theorem its_mid {k : Nat} {x : FIt} (h : R[k]? = some x) : its R F = itb x • its (R.take k ++ R.drop (k + 1)) F := by
  obtain ⟨h1, h2⟩ := List.getElem?_eq_some_iff.1 h
  have hs : R = R.take k ++ x :: R.drop (k + 1) := by
    conv => lhs; rw [← List.take_append_drop k R, List.drop_eq_getElem_cons h1, h2]
  conv => lhs; rw [hs]
  rw [its_app, its_app]
  simp only [its]
  rw [its_star]
theorem its_set {k : Nat} {x y : FIt} (h : R[k]? = some x) : its (R.set k y) F = itb y • its (R.take k ++ R.drop (k + 1)) F := by
  have hk := (List.getElem?_eq_some_iff.1 h).1
  rw [its_mid (R := R.set k y) (k := k) (x := y) (List.getElem?_set_self hk)]
  rw [List.take_set_of_le (Nat.le_refl _), List.drop_set_of_lt (by omega)]
theorem Sat.it_heap {k : Nat} {x : FIt} (hk : R[k]? = some x) (h : Sat B w0 w (its R F)) : w.heap[x.key.p]? = some (.cells (flC x).toArray 72) := by
  rw [its_mid hk] at h
  exact h.heap
theorem Sat.its_filter (q : FIt → Bool) : ∀ (R : List FIt) (F : HP), Sat B w0 w (its R F) → Sat B w0 w (its (R.filter q) F)
  | [], F, h => h
  | x :: R, F, h => by
    simp only [its] at h
    rw [List.filter_cons]
    cases hq : q x
    · simp only [Bool.false_eq_true, if_false]
      exact Sat.its_filter q R F h.drop
    · simp only [if_true, its]
      rw [← its_star]
      exact Sat.its_filter q R _ (by rw [its_star]; exact h)
theorem Sat.its_drop : ∀ (R : List FIt) (F : HP), Sat B w0 w (its R F) → Sat B w0 w F
  | [], _, h => h
  | _ :: R, F, h => Sat.its_drop R F (Sat.drop h)
theorem Sat.its_ps : ∀ (R : List FIt) (F : HP), Sat B w0 w (its R F) → (R.map (·.key.p)).Nodup
  | [], _, _ => by simp
  | x :: R, F, h => by
    simp only [its] at h
    have h2 : Sat B w0 w (its R (itb x • F)) := by rw [its_star]; exact h
    rw [List.map_cons, List.nodup_cons]
    refine ⟨?_, Sat.its_ps R _ h2⟩
    intro hm
    obtain ⟨y, hy, e⟩ := List.mem_map.1 hm
    obtain ⟨k, hk⟩ := List.mem_iff_getElem?.1 hy
    rw [its_mid hk] at h
    exact h.ne e.symm
/-- A table of flows. -/
def fltab (t room : Nat) (R : List FIt) (next : Int) : HP := hex fun (x : Value × Nat) => lift (Good R next)
  (blk t (.cells #[x.1, .pointer (some ⟨x.2, 0, none⟩), .int .i64 next] 66) • arr 69 1 x.1 R.length (R.flatMap ptrC) • queue x.2 room (ents R) • its R emp)
theorem emp_in (h : Sat B w0 w F) : Sat B w0 w (emp • F) := h.add_emp.swap
theorem Sat.fl_open (h : Sat B w0 w (fltab t room R next • F)) : ∃ A c q, Good R next ∧ R.length ≤ room ∧ room ≤ 1000 ∧
    Sat B w0 w (blk t (.cells #[.slice A R.length c, .pointer (some ⟨q, 0, none⟩), .int .i64 next] 66) • arr 69 1 (.slice A R.length c) R.length (R.flatMap ptrC) • queue q room (ents R) • its R F) := by
  unfold fltab at h
  rw [hex_star] at h
  obtain ⟨⟨v, q⟩, h⟩ := h.ex
  rw [lift_star] at h
  obtain ⟨hg, h⟩ := h.lift
  rw [star_assoc, star_assoc, star_assoc] at h
  obtain ⟨A, c, hv⟩ := h.pull2.arr_form
  simp only at hv
  subst hv
  obtain ⟨h1, h2⟩ := h.pull3.queue_len
  rw [ents_length] at h1
  refine ⟨A, c, q, hg, h1, h2, ?_⟩
  rw [star_comm (its R emp) F, ← its_star, star_comm F emp, its_star] at h
  exact h.pull4.drop
theorem Sat.fl_shut {v : Value} {q : Nat} (hg : Good R next) (h : Sat B w0 w (blk t (.cells #[v, .pointer (some ⟨q, 0, none⟩), .int .i64 next] 66) • arr 69 1 v R.length (R.flatMap ptrC) • queue q room (ents R) • its R F)) :
    Sat B w0 w (fltab t room R next • F) := by
  unfold fltab
  rw [hex_star]
  refine Sat.ex_mk ((v, q) : Value × Nat) ?_
  rw [lift_star]
  refine Sat.lift_mk hg ?_
  rw [star_assoc, star_assoc, star_assoc]
  rw [star_comm (its R emp) F, ← its_star, star_comm F emp, its_star]
  exact (emp_in h).to (by ac_rfl)
/-- Where a flow is found; nil: nowhere. -/
def ptrAt (R : List FIt) (w : Tup) : Value := match R.find? (isW w) with
  | some x => .pointer (some ⟨x.key.p, 0, none⟩)
  | none => .pointer none
theorem ptrAt_cases (R : List FIt) (w : Tup) : (R.any (isW w) = false ∧ ptrAt R w = .pointer none ∧ ∀ x ∈ R, isW w x = false) ∨
    ∃ (k : Nat) (x : FIt), R[k]? = some x ∧ x.key.tup = w ∧ R.any (isW w) = true ∧ ptrAt R w = .pointer (some ⟨x.key.p, 0, none⟩) := by
  unfold ptrAt
  cases h : R.find? (isW w) with
  | none =>
    rw [List.find?_eq_none] at h
    refine .inl ⟨?_, rfl, fun x hx => by simpa using h x hx⟩
    rw [List.any_eq_false]
    exact h
  | some x =>
    have h1 := List.find?_some h
    have h2 := List.mem_of_find?_eq_some h
    obtain ⟨k, hk⟩ := List.mem_iff_getElem?.1 h2
    exact .inr ⟨k, x, hk, by simpa [isW] using h1, List.any_eq_true.2 ⟨x, h2, h1⟩, rfl⟩
end
end Go.Proofs.YtepaanpdjadakaaGreatDoor

/-! Flows: New, Len, has, Begins, Sum, lasts. -/
namespace Go.Proofs.YtepaanpdjadakaaGreatDoor
open Go Go.RowKit

theorem flNew_any {B : Nat} {w0 w : World} {F : HP} (n : Int) (h : Sat B w0 w F) : Calls Tryz.prog 4 #[.int .i64 n] w fun e w' => ∃ t, e = .returned (.pointer (some ⟨t, 0, none⟩)) ∧ Sat B w0 w' (fltab t (roomOf n) [] 0 • F) := by
  have c1 := qNew_any n h
  clear h
  go_enter Tryz.func4, Tryz.ntmps4
  go_wp2_with fail
  refine c1.mono ?_
  rintro e w1 ⟨q, rfl, hS1⟩
  have hS2 := arr_nil (e := 69) (sz := 1) (hS1.alloc (.cells #[.slice none 0 0, .pointer (some ⟨q, 0, none⟩), .int .i64 0] 66))
  have HS := Lib.hid (Sat.fl_shut (R := []) Good.nil hS2.pull2)
  clear c1 hS1 hS2
  go_wp2_with fail
  go_ret
  exact ⟨_, rfl, HS.out⟩
theorem flLen_any {B : Nat} {w0 w : World} {F : HP} {R : List FIt} {t room : Nat} {next : Int} (h : Sat B w0 w (fltab t room R next • F)) : Calls Tryz.prog 22 #[.pointer (some ⟨t, 0, none⟩)] w fun e w' => e = .returned (.int .i64 R.length) ∧ w = w' := by
  obtain ⟨A, c, q, hg, hl1, hl2, hT⟩ := h.fl_open
  have d1 : w.cell? ⟨t, 0, none⟩ = some (.slice A R.length c) := cell_heap hT.heap rfl
  clear hT h
  go_enter Tryz.func22, Tryz.ntmps22
  go_wp2_with fail
  go_ret
  exact ⟨rfl, rfl⟩
theorem flLen_nil (w : World) : Calls Tryz.prog 22 #[.pointer none] w fun e w' => e = .returned (.int .i64 0) ∧ w = w' := by
  go_enter Tryz.func22, Tryz.ntmps22
  go_wp2_with fail
  go_ret
  exact ⟨rfl, rfl⟩
theorem flAll_nil (w : World) : Calls Tryz.prog 24 #[.pointer none] w fun e w' => e = .returned (.slice none 0 0) ∧ w = w' := by
  go_enter Tryz.func24, Tryz.ntmps24
  go_wp2_with fail
  go_ret
  exact ⟨rfl, rfl⟩
theorem has_any (f m : Int) (w : World) : Calls Tryz.prog 26 #[.int .i64 f, .int .i64 m] w fun e w' => e = .returned (.bool (hasF f m)) ∧ w = w' := by
  unfold hasF
  go_enter Tryz.func26, Tryz.ntmps26
  go_wp2_with fail
  go_ret
  exact ⟨rfl, rfl⟩
set_option maxRecDepth 8000 in
set_option maxHeartbeats 1000000 in
theorem begins_any (p f : Int) (w : World) : Calls Tryz.prog 8 #[.int .i64 p, .int .i64 f] w fun e w' => e = .returned (.bool (beginsF p f)) ∧ w = w' := by
  by_cases h6 : p = 6
  · subst h6
    have hr : beginsF 6 f = (hasF f 2 && !hasF f 21) := by unfold beginsF; rw [if_pos rfl]
    rw [hr]
    clear hr
    cases h2 : hasF f 2 with
    | false =>
      have c1 := has_any f 2 w
      rw [h2] at c1
      go_enter Tryz.func8, Tryz.ntmps8
      go_wp2_with fail
      refine c1.mono ?_
      rintro e w1 ⟨rfl, rfl⟩
      go_wp2_with fail
      go_ret
      exact ⟨rfl, rfl⟩
    | true =>
      have c1 := has_any f 2 w
      rw [h2] at c1
      have c2 := has_any f 21 w
      generalize hasF f 21 = b at *
      go_enter Tryz.func8, Tryz.ntmps8
      go_wp2_with fail
      refine c1.mono ?_
      rintro e w1 ⟨rfl, rfl⟩
      go_wp2_with fail
      refine c2.mono ?_
      rintro e w2 ⟨rfl, rfl⟩
      cases b <;> (go_wp2_with fail; go_ret; exact ⟨rfl, rfl⟩)
  · have e6 : (p == 6) = false := by simpa using h6
    have hr : beginsF p f = (decide (p = 17) || decide (p = 1) || decide (p = 58)) := by unfold beginsF; rw [if_neg h6]
    rw [hr]
    clear hr h6
    by_cases h17 : p = 17
    · subst h17
      go_enter Tryz.func8, Tryz.ntmps8
      go_wp2_with fail
      go_ret
      exact ⟨rfl, rfl⟩
    · have e17 : (p == 17) = false := by simpa using h17
      rw [decide_eq_false h17]
      clear h17
      by_cases h1 : p = 1
      · subst h1
        go_enter Tryz.func8, Tryz.ntmps8
        go_wp2_with fail
        go_ret
        exact ⟨rfl, rfl⟩
      · have e1 : (p == 1) = false := by simpa using h1
        rw [decide_eq_false h1]
        clear h1
        by_cases h58 : p = 58
        · subst h58
          go_enter Tryz.func8, Tryz.ntmps8
          go_wp2_with fail
          go_ret
          exact ⟨rfl, rfl⟩
        · have e58 : (p == 58) = false := by simpa using h58
          rw [decide_eq_false h58]
          clear h58
          go_enter Tryz.func8, Tryz.ntmps8
          go_wp2_with fail
          go_ret
          exact ⟨rfl, rfl⟩
theorem sum_any (now n : Int) (w : World) (h0 : 0 ≤ now) (h1 : now ≤ 18446744073709551615) (h2 : 0 ≤ n) (h3 : n ≤ 18446744073709551615) :
    Calls Tryz.prog 29 #[.int .u64 now, .int .u64 n] w fun e w' => e = .returned (.int .u64 (aft now n)) ∧ w' = w := by
  by_cases h : n > 18446744073709551615 - now
  · rw [aft_yes h]
    go_enter Tryz.func29, Tryz.ntmps29
    go_wp2
    all_goals go_ret
    all_goals exact ⟨rfl, rfl⟩
  · rw [aft_no h]
    go_enter Tryz.func29, Tryz.ntmps29
    go_wp2
    all_goals go_ret
    all_goals exact ⟨rfl, rfl⟩
set_option maxRecDepth 8000 in
set_option maxHeartbeats 2000000 in
theorem lasts_any (f : Flw) (w : World) : Calls Tryz.prog 30 #[.agg f.enc.toArray] w fun e w' => e = .returned (.int .u64 (lastsF f.tup.proto f.st)) ∧ Below w.heap.size w w' := by
  have hX := (Sat.start w).alloc (.cells f.enc.toArray 55)
  have d37 : (w.alloc (.cells f.enc.toArray 55)).cell? ⟨w.heap.size, 37, none⟩ = some (.int .i64 f.st) := cell_heap hX.heap (by simpa using f.at37 0)
  have d34 : (w.alloc (.cells f.enc.toArray 55)).cell? ⟨w.heap.size, 34, none⟩ = some (.int .i64 f.tup.proto) := cell_heap hX.heap (by rw [List.getElem?_toArray, f.at0 34 (by decide)]; exact f.tup.at34 0)
  have hB := hX.below
  generalize f.enc.toArray = Y at *
  generalize f.st = s at *
  generalize f.tup.proto = p at *
  clear hX
  unfold lastsF
  by_cases h1 : s = 1
  · subst h1
    rw [if_pos rfl]
    go_enter Tryz.func30, Tryz.ntmps30
    go_wp2_with fail
    go_ret
    exact ⟨rfl, hB⟩
  · have e1 : (s == 1) = false := by simpa using h1
    by_cases h2 : s = 2
    · subst h2
      rw [if_neg (by decide), if_pos rfl]
      go_enter Tryz.func30, Tryz.ntmps30
      go_wp2_with fail
      go_ret
      exact ⟨rfl, hB⟩
    · have e2 : (s == 2) = false := by simpa using h2
      by_cases h3 : s = 3
      · subst h3
        rw [if_neg (by decide), if_neg (by decide), if_pos rfl]
        go_enter Tryz.func30, Tryz.ntmps30
        go_wp2_with fail
        go_ret
        exact ⟨rfl, hB⟩
      · have e3 : (s == 3) = false := by simpa using h3
        by_cases h4 : s = 4
        · subst h4
          rw [if_neg (by decide), if_neg (by decide), if_neg (by decide), if_pos rfl]
          go_enter Tryz.func30, Tryz.ntmps30
          go_wp2_with fail
          go_ret
          exact ⟨rfl, hB⟩
        · have e4 : (s == 4) = false := by simpa using h4
          by_cases h5 : s = 5
          · subst h5
            rw [if_neg (by decide), if_neg (by decide), if_neg (by decide), if_neg (by decide), if_pos rfl]
            go_enter Tryz.func30, Tryz.ntmps30
            go_wp2_with fail
            go_ret
            exact ⟨rfl, hB⟩
          · have e5 : (s == 5) = false := by simpa using h5
            rw [if_neg h1, if_neg h2, if_neg h3, if_neg h4, if_neg h5]
            clear h1 h2 h3 h4 h5
            by_cases h17 : p = 17
            · subst h17
              rw [if_pos rfl]
              by_cases h6 : s = 6
              · subst h6
                rw [if_pos rfl]
                go_enter Tryz.func30, Tryz.ntmps30
                go_wp2_with fail
                go_ret
                exact ⟨rfl, hB⟩
              · have e6 : (s == 6) = false := by simpa using h6
                rw [if_neg h6]
                go_enter Tryz.func30, Tryz.ntmps30
                go_wp2_with fail
                go_ret
                exact ⟨rfl, hB⟩
            · have e17 : (p == 17) = false := by simpa using h17
              have n17 : (p != 17) = true := by simpa using h17
              rw [if_neg h17]
              go_enter Tryz.func30, Tryz.ntmps30
              go_wp2_with fail
              go_ret
              exact ⟨rfl, hB⟩
end Go.Proofs.YtepaanpdjadakaaGreatDoor

/-! Flows: find, Get, All. -/
namespace Go.Proofs.YtepaanpdjadakaaGreatDoor
open Go Go.RowKit

attribute [local irreducible] wpOrd
theorem ptrAt_hit {R : List FIt} {q : Tup} {k : Nat} {x : FIt} (h : R[k]? = some x) (hf : isW q x = true) (hn : ∀ j y, j < k → R[j]? = some y → isW q y = false) : ptrAt R q = .pointer (some ⟨x.key.p, 0, none⟩) := by
  have : R.find? (isW q) = some x := by
    obtain ⟨h1, h2⟩ := List.getElem?_eq_some_iff.1 h
    rw [List.find?_eq_some_iff_getElem]
    exact ⟨hf, k, h1, h2, fun j hj => by have := hn j R[j] hj (List.getElem?_eq_getElem _); simp [this]⟩
  unfold ptrAt
  rw [this]
theorem ptrAt_miss {R : List FIt} {q : Tup} (hn : ∀ j y, j < R.length → R[j]? = some y → isW q y = false) : ptrAt R q = .pointer none := by
  have : R.find? (isW q) = none := by
    rw [List.find?_eq_none]
    intro x hx
    obtain ⟨i, hi⟩ := List.mem_iff_getElem?.1 hx
    rw [hn i x (List.getElem?_eq_some_iff.1 hi).1 hi]
    exact Bool.false_ne_true
  unfold ptrAt
  rw [this]
theorem tup_load {w : World} {p : Nat} {x : FIt} (h : w.heap[p]? = some (.cells (flC x).toArray 72)) : (Instr.loadAt 37 (.pointer (some ⟨p, 0, none⟩))).run Tryz.prog w = .ok (.agg x.key.tup.enc.toArray) w :=
  run_loadAt_row h Tryz.underlying37 rfl (by rw [Tup.enc_length]; kernel_rfl) (fun j u hu => by
    have hj : j < 37 := by have := (List.getElem?_eq_some_iff.1 hu).1; rwa [Tup.enc_length] at this
    rw [List.getElem?_toArray, Nat.zero_add, flC_tup x j hj]; exact hu)
theorem flw_load {w : World} {p : Nat} {x : FIt} (h : w.heap[p]? = some (.cells (flC x).toArray 72)) : (Instr.loadAt 55 (.pointer (some ⟨p, 0, none⟩))).run Tryz.prog w = .ok (.agg (flwOf x).enc.toArray) w :=
  run_loadAt_row h Tryz.underlying55 rfl (by rw [Flw.enc_length]; kernel_rfl) (fun j u hu => by
    have hj : j < 40 := by have := (List.getElem?_eq_some_iff.1 hu).1; rwa [Flw.enc_length] at this
    rw [List.getElem?_toArray, Nat.zero_add, flC_flw x j hj]; exact hu)
section
variable {B : Nat} {w0 w w' : World} {F : HP} {R : List FIt} {t room : Nat} {next : Int}
theorem flFind_nil (q : Tup) (w : World) : Calls Tryz.prog 27 #[.pointer none, .agg q.enc.toArray] w fun e w' => e = .returned (.pointer none) ∧ Below w.heap.size w w' := by
  have hB := ((Sat.start w).alloc_ (.cells q.enc.toArray 37)).below
  generalize q.enc.toArray = Q at *
  go_enter Tryz.func27, Tryz.ntmps27
  go_wp2_with fail
  go_ret
  exact ⟨rfl, hB⟩
set_option maxRecDepth 8000 in
set_option maxHeartbeats 4000000 in
theorem flFind_any (h : Sat B w0 w (fltab t room R next • F)) (q : Tup) : Calls Tryz.prog 27 #[.pointer (some ⟨t, 0, none⟩), .agg q.enc.toArray] w fun e w' => e = .returned (ptrAt R q) ∧ Sat B w0 w' (fltab t room R next • F) := by
  have hX := h.alloc (.cells q.enc.toArray 37)
  have hlq : ∀ W, W.heap[w.heap.size]? = some (.cells q.enc.toArray 37) → (Instr.loadAt 37 (.pointer (some ⟨w.heap.size, 0, none⟩))).run Tryz.prog W = .ok (.agg q.enc.toArray) W :=
    fun W h => run_loadAt_row h Tryz.underlying37 rfl (by rw [Tup.enc_length]; kernel_rfl) (fun j u hu => by simpa using hu)
  have HLQ := Lib.hid hlq
  have HEQ := Lib.hid (fun (x : Tup) (w : World) => (tup_eq 9996 x q : EqV Tryz.prog w 10000 37 _ _ (decide (x = q))))
  obtain ⟨A, c, qq, hg, hl1, hl2, hT⟩ := hX.pull2.fl_open
  have d1 : (w.alloc (.cells q.enc.toArray 37)).cell? ⟨t, 0, none⟩ = some (.slice A R.length c) := cell_heap hT.heap rfl
  have HG := Lib.hid hg
  have hRl : R.length ≤ 1000 := by omega
  clear hlq hX h hg hl1
  generalize q.enc.toArray = QE at *
  generalize hxb : w.heap.size = xb at *
  go_enter Tryz.func27, Tryz.ntmps27
  go_wp2_with fail
  try rw [hxb]
  go_loopw [6, 14] (fun _ s wr => ∃ k : Nat, k ≤ R.length ∧ s = .int .i64 k ∧ Sat B w0 wr (blk t (.cells #[.slice A R.length c, .pointer (some ⟨qq, 0, none⟩), .int .i64 next] 66) • arr 69 1 (.slice A R.length c) R.length (R.flatMap ptrC) • queue qq room (ents R) • its R (blk xb (.cells QE 37) • F)) ∧ Hid (∀ j y, j < k → R[j]? = some y → isW q y = false)) (fun _ s _ => R.length - (intOf s).toNat)
  case atStart => exact ⟨0, Nat.zero_le _, rfl, hT, Lib.hid fun j y hj => absurd hj (Nat.not_lt_zero _)⟩
  case round =>
    clear hT d1 hxb
    obtain ⟨k, hk, rfl, hS, HK⟩ := hrel
    by_cases hlt : k < R.length
    · obtain ⟨x, hxk⟩ : ∃ x, R[k]? = some x := ⟨_, List.getElem?_eq_getElem hlt⟩
      obtain ⟨g, rfl, _, hc⟩ := hS.pull2.arr_at ptrC_length rfl hxk
      have hltz : (k : Int) < R.length := by omega
      have dp := hc 0 (.pointer (some ⟨x.key.p, 0, none⟩)) rfl
      rw [Nat.mul_one, Nat.add_zero] at dp
      have hlx : ∀ W, Sat B w0 W (blk t (.cells #[.slice (some ⟨g, 0, none⟩) R.length c, .pointer (some ⟨qq, 0, none⟩), .int .i64 next] 66) • arr 69 1 (.slice (some ⟨g, 0, none⟩) R.length c) R.length (R.flatMap ptrC) • queue qq room (ents R) • its R (blk xb (.cells QE 37) • F)) → (Instr.loadAt 37 (.pointer (some ⟨x.key.p, 0, none⟩))).run Tryz.prog W = .ok (.agg x.key.tup.enc.toArray) W ∧ W.heap[xb]? = some (.cells QE 37) := by
        intro W hW
        refine ⟨tup_load (hW.drop.drop.drop.it_heap hxk), (Sat.its_drop R _ hW.drop.drop.drop).heap⟩
      have HLX := Lib.hid hlx
      have HX := Lib.hid hxk
      have he := HEQ.out x.key.tup
      have hD := hS.drew
      clear hlx hc hxk
      cases hq : decide (x.key.tup = q) with
      | false =>
        have HNO := Lib.hid (show isW q x = false from hq)
        rw [hq] at he
        have HE := Lib.hid he
        clear hq he hS
        generalize x.key.tup.enc.toArray = XE at *
        generalize x.key.p = xp at *
        go_wp2_with fail
        try go_frame
        refine wp_region_ord [(0, .pure), (1, .pure), (2, .pure), (3, .pure), (4, .quiet), (5, .quiet), (6, .pure)] (by kernel_rfl) (by kernel_rfl)
          (fun w' => Sat B w0 w' (blk t (.cells #[.slice (some ⟨g, 0, none⟩) R.length c, .pointer (some ⟨qq, 0, none⟩), .int .i64 next] 66) • arr 69 1 (.slice (some ⟨g, 0, none⟩) R.length c) R.length (R.flatMap ptrC) • queue qq room (ents R) • its R (blk xb (.cells QE 37) • F))) hD ?_
        iterate 4 (refine ord_pure rfl rfl rfl (fun K' hK => ?_); go_big_quiet_op; refine hK _ ?_; clear hK K')
        refine ord_load (t := 37) rfl rfl rfl (p := .pointer (some ⟨xp, 0, none⟩)) (v := .agg XE) rfl (fun w' hC => (HLX.out _ hC).1) (fun K' hK => ?_)
        go_simp
        refine hK _ ?_
        clear hK K'
        refine ord_load (t := 37) rfl rfl rfl (p := .pointer (some ⟨xb, 0, none⟩)) (v := .agg QE) rfl (fun w' hC => HLQ.out _ (HLX.out _ hC).2) (fun K' hK => ?_)
        go_simp
        refine hK _ ?_
        clear hK K'
        refine ord_eql rfl rfl rfl rfl rfl (by kernel_rfl) (fun w' => HE.out w') (fun K' hK => ?_)
        go_simp
        refine hK _ ?_
        clear hK K'
        refine ord_nil ?_
        go_wp2_with fail
        go_roundw
        case rel => exact ⟨k + 1, by omega, by go_num, hD, Lib.hid (plc_next HK.out HX.out HNO.out)⟩
        case measure => simp [intOf]; omega
      | true =>
        have HP := Lib.hid (ptrAt_hit HX.out (show isW q x = true from hq) HK.out)
        rw [hq] at he
        have HE := Lib.hid he
        clear hq he hS
        generalize x.key.tup.enc.toArray = XE at *
        generalize x.key.p = xp at *
        go_wp2_with fail
        try go_frame
        refine wp_region_ord [(0, .pure), (1, .pure), (2, .pure), (3, .pure), (4, .quiet), (5, .quiet), (6, .pure)] (by kernel_rfl) (by kernel_rfl)
          (fun w' => Sat B w0 w' (blk t (.cells #[.slice (some ⟨g, 0, none⟩) R.length c, .pointer (some ⟨qq, 0, none⟩), .int .i64 next] 66) • arr 69 1 (.slice (some ⟨g, 0, none⟩) R.length c) R.length (R.flatMap ptrC) • queue qq room (ents R) • its R (blk xb (.cells QE 37) • F))) hD ?_
        iterate 4 (refine ord_pure rfl rfl rfl (fun K' hK => ?_); go_big_quiet_op; refine hK _ ?_; clear hK K')
        refine ord_load (t := 37) rfl rfl rfl (p := .pointer (some ⟨xp, 0, none⟩)) (v := .agg XE) rfl (fun w' hC => (HLX.out _ hC).1) (fun K' hK => ?_)
        go_simp
        refine hK _ ?_
        clear hK K'
        refine ord_load (t := 37) rfl rfl rfl (p := .pointer (some ⟨xb, 0, none⟩)) (v := .agg QE) rfl (fun w' hC => HLQ.out _ (HLX.out _ hC).2) (fun K' hK => ?_)
        go_simp
        refine hK _ ?_
        clear hK K'
        refine ord_eql rfl rfl rfl rfl rfl (by kernel_rfl) (fun w' => HE.out w') (fun K' hK => ?_)
        go_simp
        refine hK _ ?_
        clear hK K'
        refine ord_nil ?_
        go_wp2_with fail
        go_ret
        rw [HP.out]
        refine ⟨rfl, (Sat.fl_shut (v := .slice (some ⟨g, 0, none⟩) R.length c) (q := qq) HG.out hD).pull2.drop⟩
    · obtain rfl : k = R.length := by omega
      have hltz : ¬ (R.length : Int) < R.length := by omega
      have HP := Lib.hid (ptrAt_miss HK.out)
      go_wp2_with fail
      go_ret
      rw [HP.out]
      exact ⟨rfl, (Sat.fl_shut (v := .slice A R.length c) (q := qq) HG.out hS).pull2.drop⟩
def zFlw : Flw := ⟨⟨zAdr, zAdr, 0, 0, 0⟩, 0, 0, 0⟩
theorem zFlw_lit : zFlw.enc.toArray = #[.bool false, .int .u8 0, .int .u8 0, .int .u8 0, .int .u8 0, .int .u8 0, .int .u8 0, .int .u8 0, .int .u8 0, .int .u8 0, .int .u8 0, .int .u8 0, .int .u8 0, .int .u8 0, .int .u8 0, .int .u8 0, .int .u8 0, .bool false, .int .u8 0, .int .u8 0, .int .u8 0, .int .u8 0, .int .u8 0, .int .u8 0, .int .u8 0, .int .u8 0, .int .u8 0, .int .u8 0, .int .u8 0, .int .u8 0, .int .u8 0, .int .u8 0, .int .u8 0, .int .u8 0, .int .i64 0, .int .i64 0, .int .i64 0, .int .i64 0, .int .i64 0, .int .u64 0] := rfl
/-- What Get answers. -/
def getV (R : List FIt) (q : Tup) : Value := match R.find? (isW q) with
  | some x => .tuple #[.agg (flwOf x).enc.toArray, .bool true]
  | none => .tuple #[.agg zFlw.enc.toArray, .bool false]
theorem get_cases (R : List FIt) (q : Tup) : (ptrAt R q = .pointer none ∧ getV R q = .tuple #[.agg zFlw.enc.toArray, .bool false] ∧ R.any (isW q) = false) ∨ ∃ (k : Nat) (x : FIt), R[k]? = some x ∧ x.key.tup = q ∧ ptrAt R q = .pointer (some ⟨x.key.p, 0, none⟩) ∧ getV R q = .tuple #[.agg (flwOf x).enc.toArray, .bool true] ∧ R.any (isW q) = true := by
  unfold getV ptrAt
  cases h : R.find? (isW q) with
  | none =>
    rw [List.find?_eq_none] at h
    exact .inl ⟨rfl, rfl, List.any_eq_false.2 h⟩
  | some x =>
    have h1 := List.find?_some h
    have h2 := List.mem_of_find?_eq_some h
    obtain ⟨k, hk⟩ := List.mem_iff_getElem?.1 h2
    exact .inr ⟨k, x, hk, by simpa [isW] using h1, rfl, rfl, List.any_eq_true.2 ⟨x, h2, h1⟩⟩
theorem flw_store (f : Flw) {W : World} {x : Nat} {cur : Array Value} (hS : Sat B w0 W (blk x (.cells cur 55) • F)) (hc : cur.size = 40) : ∃ W', (Instr.storeAt 55 (.pointer (some ⟨x, 0, none⟩)) (.agg f.enc.toArray)).run Tryz.prog W = .ok () W' ∧ Sat B w0 W' (blk x (.cells f.enc.toArray 55) • F) := by
  have hst := run_storeAt_row (P := Tryz.prog) (o := 0) (ty := 55) (v := .agg f.enc.toArray) hS.heap (by simp only [Value.cells, List.size_toArray, Flw.enc_length]; kernel_rfl) (by simp [Value.cells, hc, Flw.enc_length]) (by simpa [Value.cells] using f.enc_one)
  have hS2 := hS.setRow (cs := splice cur 0 (Value.agg f.enc.toArray).cells.toList)
  refine ⟨_, hst, ?_⟩
  rw [splice_all (by simp [Value.cells, hc, Flw.enc_length])] at hS2 ⊢
  exact hS2
set_option maxRecDepth 8000 in
set_option maxHeartbeats 4000000 in
theorem flGet_any (h : Sat B w0 w (fltab t room R next • F)) (q : Tup) : Calls Tryz.prog 20 #[.pointer (some ⟨t, 0, none⟩), .agg q.enc.toArray] w fun e w' => e = .returned (getV R q) ∧ Sat B w0 w' (fltab t room R next • F) := by
  have hX := (h.alloc (.cells q.enc.toArray 37)).alloc (.cells #[.bool false, .int .u8 0, .int .u8 0, .int .u8 0, .int .u8 0, .int .u8 0, .int .u8 0, .int .u8 0, .int .u8 0, .int .u8 0, .int .u8 0, .int .u8 0, .int .u8 0, .int .u8 0, .int .u8 0, .int .u8 0, .int .u8 0, .bool false, .int .u8 0, .int .u8 0, .int .u8 0, .int .u8 0, .int .u8 0, .int .u8 0, .int .u8 0, .int .u8 0, .int .u8 0, .int .u8 0, .int .u8 0, .int .u8 0, .int .u8 0, .int .u8 0, .int .u8 0, .int .u8 0, .int .i64 0, .int .i64 0, .int .i64 0, .int .i64 0, .int .i64 0, .int .u64 0] 55)
  rw [World.size_alloc] at hX
  have hlq : ∀ W, W.heap[w.heap.size]? = some (.cells q.enc.toArray 37) → (Instr.loadAt 37 (.pointer (some ⟨w.heap.size, 0, none⟩))).run Tryz.prog W = .ok (.agg q.enc.toArray) W :=
    fun W h => run_loadAt_row h Tryz.underlying37 rfl (by rw [Tup.enc_length]; kernel_rfl) (fun j u hu => by simpa using hu)
  have hl1 := hlq _ hX.pull2.heap
  have c1 := flFind_any hX.pull3 q
  clear hlq h hX
  generalize q.enc.toArray = QE at *
  generalize hxb : w.heap.size = xb at *
  rcases get_cases R q with ⟨h1, h2, _⟩ | ⟨k, x, hx, hxq, h1, h2, _⟩
  · rw [h1] at c1
    rw [h2, zFlw_lit]
    clear h1 h2
    go_enter Tryz.func20, Tryz.ntmps20
    go_wp2_with (refine wpList_load_run (t := 37) rfl rfl rfl hl1 ?_)
    try rw [hxb]
    refine c1.mono ?_
    rintro e w1 ⟨rfl, hS1⟩
    obtain ⟨W2, hst, hS2⟩ := flw_store zFlw hS1.pull2 rfl
    rw [zFlw_lit] at hst
    have hld := run_loadAt_row (P := Tryz.prog) (o := 0) (ty := 55) (cs := zFlw.enc) hS2.heap Tryz.underlying55 rfl (by rw [Flw.enc_length]; kernel_rfl) (fun j u hu => by simpa using hu)
    have HS2 := Lib.hid hS2
    rw [zFlw_lit] at hld
    clear c1 hS1 hS2 hl1
    go_wp2_with (refine wpList_store_run (t := 55) rfl rfl rfl rfl hst (stop_ ?_))
    unfold Stop
    go_wp2_with fail
    refine ret_cell_tmp rfl rfl rfl hld rfl ?_
    exact ⟨rfl, HS2.out.drop.pull2.drop⟩
  · rw [h1] at c1
    rw [h2]
    clear h1 h2
    have HX := Lib.hid hx
    clear hx
    go_enter Tryz.func20, Tryz.ntmps20
    go_wp2_with (refine wpList_load_run (t := 37) rfl rfl rfl hl1 ?_)
    try rw [hxb]
    refine c1.mono ?_
    rintro e w1 ⟨rfl, hS1⟩
    obtain ⟨A, c, qq, hg, hl1', hl2, hT⟩ := hS1.fl_open
    have hlf := flw_load (hT.drop.drop.drop.it_heap HX.out)
    obtain ⟨W2, hst, hS2⟩ := flw_store (flwOf x) hS1.pull2 rfl
    have hld := run_loadAt_row (P := Tryz.prog) (o := 0) (ty := 55) (cs := (flwOf x).enc) hS2.heap Tryz.underlying55 rfl (by rw [Flw.enc_length]; kernel_rfl) (fun j u hu => by simpa using hu)
    have HS2 := Lib.hid hS2
    clear c1 hS1 hS2 hl1 hT
    generalize hFE : (flwOf x).enc.toArray = FE at *
    generalize x.key.p = xp at *
    go_wp2_with (first | (refine wpList_load_run (t := 55) rfl rfl rfl hlf ?_) | (refine wpList_store_run (t := 55) rfl rfl rfl rfl hst (stop_ ?_)))
    unfold Stop
    go_wp2_with fail
    refine ret_cell_tmp rfl rfl rfl hld rfl ?_
    exact ⟨by rw [hFE]; rfl, HS2.out.drop.pull2.drop⟩
set_option maxRecDepth 8000 in
set_option maxHeartbeats 2000000 in
theorem flGet_nil (q : Tup) (w : World) : Calls Tryz.prog 20 #[.pointer none, .agg q.enc.toArray] w fun e w' => e = .returned (.tuple #[.agg zFlw.enc.toArray, .bool false]) ∧ Below w.heap.size w w' := by
  have hX := ((Sat.start w).alloc (.cells q.enc.toArray 37)).alloc (.cells #[.bool false, .int .u8 0, .int .u8 0, .int .u8 0, .int .u8 0, .int .u8 0, .int .u8 0, .int .u8 0, .int .u8 0, .int .u8 0, .int .u8 0, .int .u8 0, .int .u8 0, .int .u8 0, .int .u8 0, .int .u8 0, .int .u8 0, .bool false, .int .u8 0, .int .u8 0, .int .u8 0, .int .u8 0, .int .u8 0, .int .u8 0, .int .u8 0, .int .u8 0, .int .u8 0, .int .u8 0, .int .u8 0, .int .u8 0, .int .u8 0, .int .u8 0, .int .u8 0, .int .u8 0, .int .i64 0, .int .i64 0, .int .i64 0, .int .i64 0, .int .i64 0, .int .u64 0] 55)
  rw [World.size_alloc] at hX
  have hl1 := run_loadAt_row (P := Tryz.prog) (o := 0) (ty := 37) (cs := q.enc) hX.pull2.heap Tryz.underlying37 rfl (by rw [Tup.enc_length]; kernel_rfl) (fun j u hu => by simpa using hu)
  have c1 := flFind_nil q
  generalize q.enc.toArray = QE at *
  generalize hxb : w.heap.size = xb at *
  rw [zFlw_lit]
  go_enter Tryz.func20, Tryz.ntmps20
  go_wp2_with (refine wpList_load_run (t := 37) rfl rfl rfl hl1 ?_)
  try rw [hxb]
  refine (c1 _).mono ?_
  rintro e w1 ⟨rfl, hb⟩
  obtain ⟨W2, hst, hS2⟩ := flw_store zFlw (hX.below_ hb) rfl
  rw [zFlw_lit] at hst
  have hld := run_loadAt_row (P := Tryz.prog) (o := 0) (ty := 55) (cs := zFlw.enc) hS2.heap Tryz.underlying55 rfl (by rw [Flw.enc_length]; kernel_rfl) (fun j u hu => by simpa using hu)
  have HS2 := Lib.hid hS2.below
  rw [zFlw_lit] at hld
  clear c1 hS2 hl1 hX hb
  go_wp2_with (refine wpList_store_run (t := 55) rfl rfl rfl rfl hst (stop_ ?_))
  unfold Stop
  go_wp2_with fail
  refine ret_cell_tmp rfl rfl rfl hld rfl ?_
  rw [← hxb] at HS2 ⊢
  exact ⟨rfl, HS2.out⟩
def flws (R : List FIt) : List Flw := R.map flwOf
theorem flws_length (R : List FIt) : (flws R).length = R.length := by simp [flws]
theorem flw_zero : ∃ z, (Tryz.prog.info? 55).map (fun i => (i.zero, i.size, i.bytes)) = some (some z, 40, 88) ∧ (Tryz.prog.info? 55).map (fun i => (i.zero, i.size)) = some (some z, 40) ∧ z.cells.size = 40 := by
  obtain ⟨i, hi, hz⟩ := Option.map_eq_some_iff.1 (show (Tryz.prog.info? 55).map (fun i => (i.zero.map fun z => z.cells.size, i.size, i.bytes)) = some (some 40, 40, 88) by kernel_rfl)
  simp only [Prod.mk.injEq] at hz
  obtain ⟨z, hz1, hz2⟩ := Option.map_eq_some_iff.1 hz.1
  exact ⟨z, by simp [hi, hz1, hz.2], by simp [hi, hz1, hz.2], hz2⟩
set_option maxRecDepth 8000 in
set_option maxHeartbeats 4000000 in
theorem flAll_any (h : Sat B w0 w (fltab t room R next • F)) : Calls Tryz.prog 24 #[.pointer (some ⟨t, 0, none⟩)] w fun e w' =>
    ∃ v, e = .returned v ∧ Sat B w0 w' (arr 55 40 v R.length ((flws R).flatMap Flw.enc) • fltab t room R next • F) := by
  obtain ⟨A, c, q, hg, hl1, hl2, hT⟩ := h.fl_open
  have d1 : w.cell? ⟨t, 0, none⟩ = some (.slice A R.length c) := cell_heap hT.heap rfl
  have hS0 := arr_nil (e := 55) (sz := 40) hT
  have HG := Lib.hid hg
  have hRl : R.length ≤ 1000 := by omega
  clear hT h hg hl1
  go_enter Tryz.func24, Tryz.ntmps24
  go_wp2_with fail
  go_loopw [3, 5, 13] (fun v _ s wr => ∃ k : Nat, k ≤ R.length ∧ s = .int .i64 k ∧ Sat B w0 wr (arr 55 40 v k ((flws (R.take k)).flatMap Flw.enc) • blk t (.cells #[.slice A R.length c, .pointer (some ⟨q, 0, none⟩), .int .i64 next] 66) • arr 69 1 (.slice A R.length c) R.length (R.flatMap ptrC) • queue q room (ents R) • its R F)) (fun _ _ s _ => R.length - (intOf s).toNat)
  case atStart => exact ⟨0, Nat.zero_le _, rfl, by simpa [flws] using hS0⟩
  case round =>
    clear hS0 d1
    obtain ⟨k, hk, rfl, hS⟩ := hrel
    obtain ⟨A3, c3, hv3⟩ := hS.arr_form
    subst hv3
    by_cases hlt : k < R.length
    · obtain ⟨x, hxk⟩ : ∃ x, R[k]? = some x := ⟨_, List.getElem?_eq_getElem hlt⟩
      obtain ⟨g, rfl, _, hc⟩ := hS.pull3.arr_at ptrC_length rfl hxk
      have hltz : (k : Int) < R.length := by omega
      have dp := hc 0 (.pointer (some ⟨x.key.p, 0, none⟩)) rfl
      rw [Nat.mul_one, Nat.add_zero] at dp
      have hlf := flw_load (hS.drop.drop.drop.drop.it_heap hxk)
      have hY := hS.alloc_ (.cells (flwOf x).enc.toArray 55)
      obtain ⟨z, hz1, hz2, hz3⟩ := flw_zero
      obtain ⟨v4, w4, hrun, hS4⟩ := hY.append (m := 1) (news := (flwOf x).enc) (t := 26) (ty := 26) (P := Tryz.prog) (x := .slice (some ⟨wr.heap.size, 0, none⟩) 1 1) Tryz.underlying26 hz1 hz3 (by decide) reads_new (by rw [Flw.enc_length]) (flwOf x).enc_one (by unfold maxLen; omega) (by omega)
      have htk : (flws (R.take k)).flatMap Flw.enc ++ (flwOf x).enc = (flws (R.take (k + 1))).flatMap Flw.enc := by
        unfold flws
        rw [List.take_add_one, hxk, Option.toList_some, List.map_append, List.flatMap_append]
        simp
      rw [htk] at hS4
      obtain ⟨A5, c5, rfl⟩ := hS4.arr_form
      have HFL : Hid ((Value.agg (flwOf x).enc.toArray).cells.size = 40) := Lib.hid (by simp [Value.cells, Flw.enc_length])
      clear hS hY hc hxk htk
      generalize (flwOf x).enc.toArray = Y at *
      generalize x.key.p = xp at *
      go_wp2_with (refine wpList_load_run (t := 55) rfl rfl rfl hlf (stop_ ?_))
      unfold Stop
      go_simp
      refine wpList_buildSlice_one (v := .agg Y) rfl rfl rfl Tryz.underlying26 hz2 HFL.out (by decide) (by decide) ?_
      go_simp
      refine wpList_append_run rfl _ _ _ rfl rfl rfl hrun ?_
      go_wp2_with fail
      go_roundw
      case rel => exact ⟨k + 1, by omega, by go_num, hS4⟩
      case measure => simp [intOf]; omega
    · obtain rfl : k = R.length := by omega
      have hltz : ¬ (R.length : Int) < R.length := by omega
      rw [List.take_length] at hS
      go_wp2_with fail
      go_ret
      have h2 := hS.to (by ac_rfl : _ = blk t (.cells #[.slice A R.length c, .pointer (some ⟨q, 0, none⟩), .int .i64 next] 66) • arr 69 1 (.slice A R.length c) R.length (R.flatMap ptrC) • queue q room (ents R) • (arr 55 40 (.slice A3 R.length c3) R.length ((flws R).flatMap Flw.enc) • its R F))
      rw [← its_star] at h2
      exact ⟨_, rfl, (Sat.fl_shut (v := .slice A R.length c) (q := q) HG.out h2).pull2⟩
end
end Go.Proofs.YtepaanpdjadakaaGreatDoor

/-! Flows: first, answers, closes, opening, open, see. -/
namespace Go.Proofs.YtepaanpdjadakaaGreatDoor
open Go Go.RowKit

attribute [local irreducible] wpOrd
def phOf (f : Flw) : Ph := ⟨f.st, f.fin⟩
def withPh (f : Flw) (p : Ph) : Flw := { f with st := p.st, fin := p.fin }
theorem withPh_self (f : Flw) : withPh f (phOf f) = f := rfl
theorem flw_set37 (f : Flw) (s : Int) : f.enc.toArray.setIfInBounds 37 (.int .i64 s) = (withPh f ⟨s, f.fin⟩).enc.toArray := by
  rw [List.setIfInBounds_toArray]
  congr 1
  unfold Flw.enc withPh
  rw [List.set_append_right _ _ (by rw [Tup.enc_length]; omega), Tup.enc_length]
  rfl
theorem flw_set38 (f : Flw) (s : Int) : f.enc.toArray.setIfInBounds 38 (.int .i64 s) = (withPh f ⟨f.st, s⟩).enc.toArray := by
  rw [List.setIfInBounds_toArray]
  congr 1
  unfold Flw.enc withPh
  rw [List.set_append_right _ _ (by rw [Tup.enc_length]; omega), Tup.enc_length]
  rfl
section
variable {B : Nat} {w0 w w' : World} {F : HP} {bf : Nat} {f : Flw}
theorem Sat.flw37 (h : Sat B w0 w (blk bf (.cells f.enc.toArray 55) • F)) : w.cell? ⟨bf, 37, none⟩ = some (.int .i64 f.st) := cell_heap h.heap (by simpa using f.at37 0)
theorem Sat.flw38 (h : Sat B w0 w (blk bf (.cells f.enc.toArray 55) • F)) : w.cell? ⟨bf, 38, none⟩ = some (.int .i64 f.fin) := cell_heap h.heap (by simpa using f.at37 1)
theorem Sat.flw34 (h : Sat B w0 w (blk bf (.cells f.enc.toArray 55) • F)) : w.cell? ⟨bf, 34, none⟩ = some (.int .i64 f.tup.proto) := cell_heap h.heap (by rw [List.getElem?_toArray, f.at0 34 (by decide)]; exact f.tup.at34 0)
theorem Sat.flw_st (h : Sat B w0 w (blk bf (.cells f.enc.toArray 55) • F)) (s : Int) : ∃ W, (Instr.storeAt 3 (.pointer (some ⟨bf, 37, none⟩)) (.int .i64 s)).run Tryz.prog w = .ok () W ∧ Sat B w0 W (blk bf (.cells (withPh f ⟨s, f.fin⟩).enc.toArray 55) • F) := by
  have := one_store (o := 37) (ty := 3) (u := .int .i64 s) h (by kernel_rfl) (by simp [Flw.enc_length]) rfl rfl
  rw [flw_set37] at this
  exact this
theorem Sat.flw_fin (h : Sat B w0 w (blk bf (.cells f.enc.toArray 55) • F)) (s : Int) : ∃ W, (Instr.storeAt 3 (.pointer (some ⟨bf, 38, none⟩)) (.int .i64 s)).run Tryz.prog w = .ok () W ∧ Sat B w0 W (blk bf (.cells (withPh f ⟨f.st, s⟩).enc.toArray 55) • F) := by
  have := one_store (o := 38) (ty := 3) (u := .int .i64 s) h (by kernel_rfl) (by simp [Flw.enc_length]) rfl rfl
  rw [flw_set38] at this
  exact this
theorem first_any (fl : Int) (w : World) : Calls Tryz.prog 70 #[.int .i64 fl] w fun e w' => e = .returned (.bool (firstF fl)) ∧ w = w' := by
  unfold firstF
  have c1 := has_any fl 2 w
  have c2 := has_any fl 17 w
  generalize hasF fl 2 = b1 at *
  generalize hasF fl 17 = b2 at *
  cases b1
  · go_enter Tryz.func70, Tryz.ntmps70
    go_wp2_with fail
    refine c1.mono ?_
    rintro e w1 ⟨rfl, rfl⟩
    go_wp2_with fail
    go_ret
    exact ⟨rfl, rfl⟩
  · go_enter Tryz.func70, Tryz.ntmps70
    go_wp2_with fail
    refine c1.mono ?_
    rintro e w1 ⟨rfl, rfl⟩
    go_wp2_with fail
    refine c2.mono ?_
    rintro e w1 ⟨rfl, rfl⟩
    cases b2 <;> (go_wp2_with fail; go_ret; exact ⟨rfl, rfl⟩)
theorem answers_any (fl : Int) (w : World) : Calls Tryz.prog 69 #[.int .i64 fl] w fun e w' => e = .returned (.bool (answersF fl)) ∧ w = w' := by
  unfold answersF
  have c1 := has_any fl 2 w
  have c2 := has_any fl 16 w
  have c3 := has_any fl 1 w
  generalize hasF fl 2 = b1 at *
  generalize hasF fl 16 = b2 at *
  generalize hasF fl 1 = b3 at *
  cases b1
  · go_enter Tryz.func69, Tryz.ntmps69
    go_wp2_with fail
    refine c1.mono ?_
    rintro e w1 ⟨rfl, rfl⟩
    go_wp2_with fail
    go_ret
    exact ⟨rfl, rfl⟩
  · cases b2
    · go_enter Tryz.func69, Tryz.ntmps69
      go_wp2_with fail
      refine c1.mono ?_
      rintro e w1 ⟨rfl, rfl⟩
      go_wp2_with fail
      refine c2.mono ?_
      rintro e w1 ⟨rfl, rfl⟩
      go_wp2_with fail
      go_ret
      exact ⟨rfl, rfl⟩
    · go_enter Tryz.func69, Tryz.ntmps69
      go_wp2_with fail
      refine c1.mono ?_
      rintro e w1 ⟨rfl, rfl⟩
      go_wp2_with fail
      refine c2.mono ?_
      rintro e w1 ⟨rfl, rfl⟩
      go_wp2_with fail
      refine c3.mono ?_
      rintro e w1 ⟨rfl, rfl⟩
      cases b3 <;> (go_wp2_with fail; go_ret; exact ⟨rfl, rfl⟩)
set_option maxRecDepth 8000 in
set_option maxHeartbeats 1000000 in
theorem closes_any (h : Sat B w0 w (blk bf (.cells f.enc.toArray 55) • F)) (side fl : Int) : Calls Tryz.prog 71 #[.pointer (some ⟨bf, 0, none⟩), .int .i64 side, .int .i64 fl] w fun e w' =>
    e = .returned (.tuple #[]) ∧ Sat B w0 w' (blk bf (.cells (withPh f (closesF (phOf f) side fl)).enc.toArray 55) • F) := by
  have c1 := has_any fl 1 w
  unfold closesF
  cases hb : hasF fl 1 with
  | false =>
    rw [hb] at c1
    rw [if_neg Bool.false_ne_true, withPh_self]
    have HS := Lib.hid h
    clear h hb
    go_enter Tryz.func71, Tryz.ntmps71
    go_wp2_with fail
    refine c1.mono ?_
    rintro e w1 ⟨rfl, rfl⟩
    go_wp2_with fail
    refine bodyPost_end (results_none (by rfl) _ _ _) (by rfl) ?_
    exact ⟨rfl, HS.out⟩
  | true =>
    rw [hb] at c1
    rw [if_pos rfl]
    obtain ⟨W1, hs1, hS1⟩ := h.flw_st 4
    obtain ⟨W2, hs2, hS2⟩ := hS1.flw_fin side
    have HS := Lib.hid hS2
    clear h hb hS1 hS2
    go_enter Tryz.func71, Tryz.ntmps71
    go_wp2_with fail
    refine c1.mono ?_
    rintro e w1 ⟨rfl, rfl⟩
    go_wp2_with (refine wpList_store_run (t := 3) rfl rfl rfl rfl hs1 (stop_ ?_))
    unfold Stop
    go_wp2_with (refine wpList_store_run (t := 3) rfl rfl rfl rfl hs2 (stop_ ?_))
    unfold Stop
    go_wp2_with fail
    go_end0
    exact ⟨rfl, HS.out⟩
set_option maxRecDepth 8000 in
set_option maxHeartbeats 4000000 in
theorem opening_any (h : Sat B w0 w (blk bf (.cells f.enc.toArray 55) • F)) (side fl : Int) : Calls Tryz.prog 51 #[.pointer (some ⟨bf, 0, none⟩), .int .i64 side, .int .i64 fl] w fun e w' =>
    e = .returned (.bool (openingF (phOf f) side fl).1) ∧ Sat B w0 w' (blk bf (.cells (withPh f (openingF (phOf f) side fl).2).enc.toArray 55) • F) := by
  have d37 := h.flw37
  unfold openingF
  by_cases hs : side = 1
  · subst hs
    rw [if_pos rfl]
    have c1 := answers_any fl w
    cases hb : answersF fl with
    | false =>
      rw [hb] at c1
      simp only [Bool.false_eq_true, if_false, withPh_self]
      have HS := Lib.hid h
      clear h hb d37
      go_enter Tryz.func51, Tryz.ntmps51
      go_wp2_with fail
      refine c1.mono ?_
      rintro e w1 ⟨rfl, rfl⟩
      go_wp2_with fail
      go_ret
      exact ⟨rfl, HS.out⟩
    | true =>
      rw [hb] at c1
      simp only [if_true]
      obtain ⟨W1, hs1, hS1⟩ := h.flw_st 2
      have HS := Lib.hid hS1
      clear h hb d37 hS1
      go_enter Tryz.func51, Tryz.ntmps51
      go_wp2_with fail
      refine c1.mono ?_
      rintro e w1 ⟨rfl, rfl⟩
      go_wp2_with (refine wpList_store_run (t := 3) rfl rfl rfl rfl hs1 (stop_ ?_))
      unfold Stop
      go_wp2_with fail
      go_ret
      exact ⟨rfl, HS.out⟩
  · have es : (side == 1) = false := by simpa using hs
    rw [if_neg hs]
    clear hs
    have c1 := first_any fl w
    cases hb : firstF fl with
    | true =>
      rw [hb] at c1
      simp only [if_true, withPh_self]
      have HS := Lib.hid h
      clear h hb d37
      go_enter Tryz.func51, Tryz.ntmps51
      go_wp2_with fail
      refine c1.mono ?_
      rintro e w1 ⟨rfl, rfl⟩
      go_wp2_with fail
      go_ret
      exact ⟨rfl, HS.out⟩
    | false =>
      rw [hb] at c1
      simp only [Bool.false_eq_true, if_false]
      by_cases ht : (phOf f).st = 1
      · rw [if_pos ht, withPh_self]
        rw [show f.st = 1 from ht] at d37
        have HS := Lib.hid h
        clear h hb ht
        go_enter Tryz.func51, Tryz.ntmps51
        go_wp2_with fail
        refine c1.mono ?_
        rintro e w1 ⟨rfl, rfl⟩
        go_wp2_with fail
        go_ret
        exact ⟨rfl, HS.out⟩
      · rw [if_neg ht]
        have et : (f.st == 1) = false := by simpa using (show ¬ f.st = 1 from ht)
        have c2 := has_any fl 2 w
        have c3 := has_any fl 16 w
        have HH := Lib.hid h
        generalize f.st = s at *
        clear ht hb h
        cases hb2 : hasF fl 2 with
        | true =>
          rw [hb2] at c2
          simp only [if_true, withPh_self]
          clear c3 hb2
          go_enter Tryz.func51, Tryz.ntmps51
          go_wp2_with fail
          refine c1.mono ?_
          rintro e w1 ⟨rfl, rfl⟩
          go_wp2_with fail
          refine c2.mono ?_
          rintro e w1 ⟨rfl, rfl⟩
          go_wp2_with fail
          go_ret
          exact ⟨rfl, HH.out⟩
        | false =>
          rw [hb2] at c2
          simp only [Bool.false_eq_true, if_false]
          cases hb3 : hasF fl 16 with
          | false =>
            rw [hb3] at c3
            simp only [Bool.false_eq_true, if_false, withPh_self]
            clear hb2 hb3
            go_enter Tryz.func51, Tryz.ntmps51
            go_wp2_with fail
            refine c1.mono ?_
            rintro e w1 ⟨rfl, rfl⟩
            go_wp2_with fail
            refine c2.mono ?_
            rintro e w1 ⟨rfl, rfl⟩
            go_wp2_with fail
            refine c3.mono ?_
            rintro e w1 ⟨rfl, rfl⟩
            go_wp2_with fail
            go_ret
            exact ⟨rfl, HH.out⟩
          | true =>
            rw [hb3] at c3
            simp only [if_true]
            obtain ⟨W1, hs1, hS1⟩ := HH.out.flw_st 3
            have c4 := closes_any hS1 side fl
            clear hb2 hb3 hS1
            go_enter Tryz.func51, Tryz.ntmps51
            go_wp2_with fail
            refine c1.mono ?_
            rintro e w1 ⟨rfl, rfl⟩
            go_wp2_with fail
            refine c2.mono ?_
            rintro e w1 ⟨rfl, rfl⟩
            go_wp2_with fail
            refine c3.mono ?_
            rintro e w1 ⟨rfl, rfl⟩
            go_wp2_with (refine wpList_store_run (t := 3) rfl rfl rfl rfl hs1 (stop_ ?_))
            unfold Stop
            go_wp2_with fail
            refine c4.mono ?_
            rintro e w2 ⟨rfl, hS2⟩
            have HS := Lib.hid hS2
            clear hS2 c4
            go_wp2_with fail
            go_ret
            exact ⟨rfl, HS.out⟩
set_option maxRecDepth 8000 in
set_option maxHeartbeats 8000000 in
theorem open_any (h : Sat B w0 w (blk bf (.cells f.enc.toArray 55) • F)) (side fl : Int) : Calls Tryz.prog 52 #[.pointer (some ⟨bf, 0, none⟩), .int .i64 side, .int .i64 fl] w fun e w' =>
    e = .returned (.tuple #[.bool (openF (phOf f) side fl).1, .bool (openF (phOf f) side fl).2.1]) ∧ Sat B w0 w' (blk bf (.cells (withPh f (openF (phOf f) side fl).2.2).enc.toArray 55) • F) := by
  have d37 := h.flw37
  have d38 := h.flw38
  have c1 := has_any fl 2 w
  unfold openF
  cases hb : hasF fl 2 with
  | true =>
    rw [hb] at c1
    simp only [if_true, withPh_self]
    have HS := Lib.hid h
    clear h hb d37 d38
    go_enter Tryz.func52, Tryz.ntmps52
    go_wp2_with fail
    refine c1.mono ?_
    rintro e w1 ⟨rfl, rfl⟩
    go_wp2_with fail
    go_ret2
    exact ⟨rfl, HS.out⟩
  | false =>
    rw [hb] at c1
    simp only [Bool.false_eq_true, if_false]
    clear hb
    by_cases h3 : (phOf f).st = 3
    · rw [if_pos h3]
      rw [show f.st = 3 from h3] at d37
      have c2 := closes_any h side fl
      clear h h3 d38
      go_enter Tryz.func52, Tryz.ntmps52
      go_wp2_with fail
      refine c1.mono ?_
      rintro e w1 ⟨rfl, rfl⟩
      go_wp2_with fail
      refine c2.mono ?_
      rintro e w2 ⟨rfl, hS2⟩
      have HS := Lib.hid hS2
      clear hS2 c2
      go_wp2_with fail
      go_ret2
      exact ⟨rfl, HS.out⟩
    · rw [if_neg h3]
      have e3 : (f.st == 3) = false := by simpa using (show ¬ f.st = 3 from h3)
      by_cases h4 : (phOf f).st = 4
      · rw [show f.st = 4 from h4] at d37
        have c2 := has_any fl 1 w
        cases hb2 : hasF fl 1 with
        | false =>
          rw [hb2] at c2
          rw [if_neg (fun hc => Bool.false_ne_true hc.2.1), if_neg (by rw [h4]; decide), withPh_self]
          have HS := Lib.hid h
          clear h h3 h4 e3 hb2 d38
          go_enter Tryz.func52, Tryz.ntmps52
          go_wp2_with fail
          refine c1.mono ?_
          rintro e w1 ⟨rfl, rfl⟩
          go_wp2_with fail
          refine c2.mono ?_
          rintro e w1 ⟨rfl, rfl⟩
          go_wp2_with fail
          go_ret2
          exact ⟨rfl, HS.out⟩
        | true =>
          rw [hb2] at c2
          by_cases hsd : side = (phOf f).fin
          · rw [if_neg (fun hc => hc.2.2 hsd), if_neg (by rw [h4]; decide), withPh_self]
            have esd : (side != f.fin) = false := by simpa using (show side = f.fin from hsd)
            have HS := Lib.hid h
            generalize f.fin = fi at *
            clear h h3 h4 e3 hb2 hsd
            go_enter Tryz.func52, Tryz.ntmps52
            go_wp2_with fail
            refine c1.mono ?_
            rintro e w1 ⟨rfl, rfl⟩
            go_wp2_with fail
            refine c2.mono ?_
            rintro e w1 ⟨rfl, rfl⟩
            go_wp2_with fail
            go_ret2
            exact ⟨rfl, HS.out⟩
          · rw [if_pos ⟨h4, rfl, hsd⟩]
            have esd : (side != f.fin) = true := by simpa using (show ¬ side = f.fin from hsd)
            obtain ⟨W1, hs1, hS1⟩ := h.flw_st 5
            have HS := Lib.hid hS1
            clear h h3 h4 e3 hb2 hsd hS1
            go_enter Tryz.func52, Tryz.ntmps52
            go_wp2_with fail
            refine c1.mono ?_
            rintro e w1 ⟨rfl, rfl⟩
            go_wp2_with fail
            refine c2.mono ?_
            rintro e w1 ⟨rfl, rfl⟩
            go_wp2_with (refine wpList_store_run (t := 3) rfl rfl rfl rfl hs1 (stop_ ?_))
            unfold Stop
            go_wp2_with fail
            go_ret2
            exact ⟨rfl, HS.out⟩
      · rw [if_neg (fun hc => h4 hc.1)]
        have e4 : (f.st == 4) = false := by simpa using (show ¬ f.st = 4 from h4)
        by_cases h5 : (phOf f).st = 5
        · rw [if_pos h5, withPh_self]
          rw [show f.st = 5 from h5] at d37
          have HS := Lib.hid h
          have HH := Lib.hid h.drew
          clear h h3 h4 h5 e3 e4
          cases hb2 : hasF fl 16 with
          | false =>
            have c2 : ∀ w, Calls Tryz.prog _ _ w _ := fun w => has_any fl 16 w
            rw [hb2] at c2
            clear hb2
            go_enter Tryz.func52, Tryz.ntmps52
            go_wp2_with fail
            refine c1.mono ?_
            rintro e w1 ⟨rfl, rfl⟩
            go_wp2_with fail
            try go_frame
            refine wp_region_ord [(0, .pure), (1, .acts), (2, .pure), (3, .pure), (4, .acts), (5, .pure), (6, .pure), (7, .pure), (8, .pure), (9, .pure), (10, .pure), (11, .pure), (12, .quiet), (13, .pure), (14, .pure), (15, .pure), (16, .pure)] (by kernel_rfl) (by kernel_rfl)
              (fun w' => ∀ p, w'.cell? p = w.cell? p) (fun _ => rfl) ?_
            iterate 1 (refine ord_pure rfl rfl rfl (fun K' hK => ?_); go_big_quiet_op; refine hK _ ?_; clear hK K')
            refine ord_acts rfl rfl (fun K' hK => ?_)
            go_simp
            refine (c2 _).mono ?_
            rintro e w2 ⟨rfl, rfl⟩
            refine hK _ _ (fun _ => rfl) ?_
            clear hK K'
            go_simp
            iterate 1 (refine ord_pure rfl rfl rfl (fun K' hK => ?_); go_big_quiet_op; refine hK _ ?_; clear hK K')
            iterate 3 (refine ord_skip' rfl rfl (fun K' hK => ?_); go_simp; refine hK _ ?_; clear hK K')
            iterate 2 (refine ord_pure rfl rfl rfl (fun K' hK => ?_); go_big_quiet_op; refine hK _ ?_; clear hK K')
            iterate 6 (refine ord_skip' rfl rfl (fun K' hK => ?_); go_simp; refine hK _ ?_; clear hK K')
            iterate 3 (refine ord_pure rfl rfl rfl (fun K' hK => ?_); go_big_quiet_op; refine hK _ ?_; clear hK K')
            refine ord_nil ?_
            go_wp2_with fail
            go_ret2
            exact ⟨rfl, HH.out⟩
          | true =>
            have c2 : ∀ w, Calls Tryz.prog _ _ w _ := fun w => has_any fl 16 w
            rw [hb2] at c2
            clear hb2
            cases hb3 : hasF fl 1 with
            | true =>
              have c3 : ∀ w, Calls Tryz.prog _ _ w _ := fun w => has_any fl 1 w
              rw [hb3] at c3
              clear hb3
              go_enter Tryz.func52, Tryz.ntmps52
              go_wp2_with fail
              refine c1.mono ?_
              rintro e w1 ⟨rfl, rfl⟩
              go_wp2_with fail
              try go_frame
              refine wp_region_ord [(0, .pure), (1, .acts), (2, .pure), (3, .pure), (4, .acts), (5, .pure), (6, .pure), (7, .pure), (8, .pure), (9, .pure), (10, .pure), (11, .pure), (12, .quiet), (13, .pure), (14, .pure), (15, .pure), (16, .pure)] (by kernel_rfl) (by kernel_rfl)
                (fun w' => ∀ p, w'.cell? p = w.cell? p) (fun _ => rfl) ?_
              iterate 1 (refine ord_pure rfl rfl rfl (fun K' hK => ?_); go_big_quiet_op; refine hK _ ?_; clear hK K')
              refine ord_acts rfl rfl (fun K' hK => ?_)
              go_simp
              refine (c2 _).mono ?_
              rintro e w2 ⟨rfl, rfl⟩
              refine hK _ _ (fun _ => rfl) ?_
              clear hK K'
              go_simp
              iterate 2 (refine ord_pure rfl rfl rfl (fun K' hK => ?_); go_big_quiet_op; refine hK _ ?_; clear hK K')
              refine ord_acts rfl rfl (fun K' hK => ?_)
              go_simp
              refine (c3 _).mono ?_
              rintro e w3 ⟨rfl, rfl⟩
              refine hK _ _ (fun _ => rfl) ?_
              clear hK K'
              go_simp
              iterate 3 (refine ord_pure rfl rfl rfl (fun K' hK => ?_); go_big_quiet_op; refine hK _ ?_; clear hK K')
              iterate 6 (refine ord_skip' rfl rfl (fun K' hK => ?_); go_simp; refine hK _ ?_; clear hK K')
              iterate 3 (refine ord_pure rfl rfl rfl (fun K' hK => ?_); go_big_quiet_op; refine hK _ ?_; clear hK K')
              refine ord_nil ?_
              go_wp2_with fail
              go_ret2
              exact ⟨rfl, HH.out⟩
            | false =>
              have c3 : ∀ w, Calls Tryz.prog _ _ w _ := fun w => has_any fl 1 w
              rw [hb3] at c3
              clear hb3
              have hdec : (side == f.fin) = decide (side = (phOf f).fin) := by
                rw [Bool.eq_iff_iff, beq_iff_eq, decide_eq_true_eq]; exact Iff.rfl
              rw [← hdec]
              have d38d : w.drew.cell? ⟨bf, 38, none⟩ = some (.int .i64 f.fin) := d38
              generalize f.fin = fi at *
              clear hdec
              go_enter Tryz.func52, Tryz.ntmps52
              go_wp2_with fail
              refine c1.mono ?_
              rintro e w1 ⟨rfl, rfl⟩
              go_wp2_with fail
              try go_frame
              refine wp_region_ord [(0, .pure), (1, .acts), (2, .pure), (3, .pure), (4, .acts), (5, .pure), (6, .pure), (7, .pure), (8, .pure), (9, .pure), (10, .pure), (11, .pure), (12, .quiet), (13, .pure), (14, .pure), (15, .pure), (16, .pure)] (by kernel_rfl) (by kernel_rfl)
                (fun w' => ∀ p, w'.cell? p = w.cell? p) (fun _ => rfl) ?_
              iterate 1 (refine ord_pure rfl rfl rfl (fun K' hK => ?_); go_big_quiet_op; refine hK _ ?_; clear hK K')
              refine ord_acts rfl rfl (fun K' hK => ?_)
              go_simp
              refine (c2 _).mono ?_
              rintro e w2 ⟨rfl, rfl⟩
              refine hK _ _ (fun _ => rfl) ?_
              clear hK K'
              go_simp
              iterate 2 (refine ord_pure rfl rfl rfl (fun K' hK => ?_); go_big_quiet_op; refine hK _ ?_; clear hK K')
              refine ord_acts rfl rfl (fun K' hK => ?_)
              go_simp
              refine (c3 _).mono ?_
              rintro e w3 ⟨rfl, rfl⟩
              refine hK _ _ (fun _ => rfl) ?_
              clear hK K'
              go_simp
              iterate 7 (refine ord_pure rfl rfl rfl (fun K' hK => ?_); go_big_quiet_op; refine hK _ ?_; clear hK K')
              refine ord_load (t := 3) rfl rfl rfl (p := .pointer (some ⟨bf, 38, none⟩)) (v := .int .i64 fi) rfl (fun w' hC => load_one Tryz.underlying3 rfl (by rw [hC]; exact d38)) (fun K' hK => ?_)
              go_simp
              refine hK _ ?_
              clear hK K'
              iterate 4 (refine ord_pure rfl rfl rfl (fun K' hK => ?_); go_big_quiet_op; refine hK _ ?_; clear hK K')
              refine ord_nil ?_
              go_wp2_with fail
              go_ret2
              exact ⟨rfl, HH.out⟩
        · rw [if_neg h5, withPh_self]
          have e5 : (f.st == 5) = false := by simpa using (show ¬ f.st = 5 from h5)
          have HS := Lib.hid h
          generalize f.st = s at *
          clear h h3 h4 h5
          go_enter Tryz.func52, Tryz.ntmps52
          go_wp2_with fail
          refine c1.mono ?_
          rintro e w1 ⟨rfl, rfl⟩
          go_wp2_with fail
          go_ret2
          exact ⟨rfl, HS.out⟩
set_option maxRecDepth 8000 in
set_option maxHeartbeats 8000000 in
theorem see_any (h : Sat B w0 w (blk bf (.cells f.enc.toArray 55) • F)) (side fl : Int) : Calls Tryz.prog 28 #[.pointer (some ⟨bf, 0, none⟩), .int .i64 side, .int .i64 fl] w fun e w' =>
    e = .returned (.tuple #[.bool (seeF f.tup.proto (phOf f) side fl).1, .bool (seeF f.tup.proto (phOf f) side fl).2.1]) ∧ Sat B w0 w' (blk bf (.cells (withPh f (seeF f.tup.proto (phOf f) side fl).2.2).enc.toArray 55) • F) := by
  have d37 := h.flw37
  have d34 := h.flw34
  unfold seeF
  by_cases h6 : f.tup.proto = 6
  · rw [if_pos h6]
    rw [h6] at d34
    have c1 := has_any fl 4 w
    cases hb : hasF fl 4 with
    | true =>
      rw [hb] at c1
      simp only [if_true]
      clear hb
      by_cases h1 : (phOf f).st = 1
      · rw [show f.st = 1 from h1] at d37
        by_cases h0 : side = 0
        · subst h0
          rw [if_pos (.inr (.inl rfl)), withPh_self]
          have HS := Lib.hid h
          clear h h1 h6
          go_enter Tryz.func28, Tryz.ntmps28
          go_wp2_with fail
          refine c1.mono ?_
          rintro e w1 ⟨rfl, rfl⟩
          go_wp2_with fail
          go_ret2
          exact ⟨rfl, HS.out⟩
        · have e0 : (side == 0) = false := by simpa using h0
          have c2 := has_any fl 16 w
          cases hb2 : hasF fl 16 with
          | true =>
            rw [hb2] at c2
            rw [if_pos (.inr (.inr rfl)), withPh_self]
            have HS := Lib.hid h
            clear h h1 h6 h0 hb2
            go_enter Tryz.func28, Tryz.ntmps28
            go_wp2_with fail
            refine c1.mono ?_
            rintro e w1 ⟨rfl, rfl⟩
            go_wp2_with fail
            refine c2.mono ?_
            rintro e w1 ⟨rfl, rfl⟩
            go_wp2_with fail
            go_ret2
            exact ⟨rfl, HS.out⟩
          | false =>
            rw [hb2] at c2
            rw [if_neg (by rintro (hc | hc | hc); exact hc h1; exact h0 hc; exact Bool.false_ne_true hc), withPh_self]
            have HS := Lib.hid h
            clear h h1 h6 h0 hb2
            go_enter Tryz.func28, Tryz.ntmps28
            go_wp2_with fail
            refine c1.mono ?_
            rintro e w1 ⟨rfl, rfl⟩
            go_wp2_with fail
            refine c2.mono ?_
            rintro e w1 ⟨rfl, rfl⟩
            go_wp2_with fail
            go_ret2
            exact ⟨rfl, HS.out⟩
      · have n1 : (f.st != 1) = true := by simpa using (show ¬ f.st = 1 from h1)
        rw [if_pos (.inl h1), withPh_self]
        have HS := Lib.hid h
        generalize f.st = s at *
        clear h h1 h6
        go_enter Tryz.func28, Tryz.ntmps28
        go_wp2_with fail
        refine c1.mono ?_
        rintro e w1 ⟨rfl, rfl⟩
        go_wp2_with fail
        go_ret2
        exact ⟨rfl, HS.out⟩
    | false =>
      rw [hb] at c1
      simp only [Bool.false_eq_true, if_false]
      clear hb
      by_cases h1 : (phOf f).st = 1
      · rw [if_pos (.inl h1)]
        rw [show f.st = 1 from h1] at d37
        have c2 := opening_any h side fl
        clear h h1 h6
        go_enter Tryz.func28, Tryz.ntmps28
        go_wp2_with fail
        refine c1.mono ?_
        rintro e w1 ⟨rfl, rfl⟩
        go_wp2_with fail
        refine c2.mono ?_
        rintro e w2 ⟨rfl, hS2⟩
        have HS := Lib.hid hS2
        clear hS2 c2
        go_wp2_with fail
        go_ret2
        exact ⟨rfl, HS.out⟩
      · have e1 : (f.st == 1) = false := by simpa using (show ¬ f.st = 1 from h1)
        by_cases h2 : (phOf f).st = 2
        · rw [if_pos (.inr h2)]
          rw [show f.st = 2 from h2] at d37
          have c2 := opening_any h side fl
          clear h h1 h2 h6 e1
          go_enter Tryz.func28, Tryz.ntmps28
          go_wp2_with fail
          refine c1.mono ?_
          rintro e w1 ⟨rfl, rfl⟩
          go_wp2_with fail
          refine c2.mono ?_
          rintro e w2 ⟨rfl, hS2⟩
          have HS := Lib.hid hS2
          clear hS2 c2
          go_wp2_with fail
          go_ret2
          exact ⟨rfl, HS.out⟩
        · rw [if_neg (by rintro (hc | hc); exact h1 hc; exact h2 hc)]
          have e2 : (f.st == 2) = false := by simpa using (show ¬ f.st = 2 from h2)
          have c2 := open_any h side fl
          generalize f.st = s at *
          clear h h1 h2 h6
          go_enter Tryz.func28, Tryz.ntmps28
          go_wp2_with fail
          refine c1.mono ?_
          rintro e w1 ⟨rfl, rfl⟩
          go_wp2_with fail
          refine c2.mono ?_
          rintro e w2 ⟨rfl, hS2⟩
          have HS := Lib.hid hS2
          clear hS2 c2
          go_wp2_with fail
          go_ret2
          exact ⟨rfl, HS.out⟩
  · rw [if_neg h6]
    have n6 : (f.tup.proto != 6) = true := by simpa using h6
    by_cases h1 : side = 1
    · subst h1
      rw [if_pos rfl]
      obtain ⟨W1, hs1, hS1⟩ := h.flw_st 7
      have HS := Lib.hid hS1
      generalize f.tup.proto = p at *
      clear h h6 hS1
      go_enter Tryz.func28, Tryz.ntmps28
      go_wp2_with (refine wpList_store_run (t := 3) rfl rfl rfl rfl hs1 (stop_ ?_))
      unfold Stop
      go_wp2_with fail
      go_ret2
      exact ⟨rfl, HS.out⟩
    · have e1 : (side == 1) = false := by simpa using h1
      rw [if_neg h1, withPh_self]
      have HS := Lib.hid h
      generalize f.tup.proto = p at *
      clear h h6 h1
      go_enter Tryz.func28, Tryz.ntmps28
      go_wp2_with fail
      go_ret2
      exact ⟨rfl, HS.out⟩
end
end Go.Proofs.YtepaanpdjadakaaGreatDoor

/-! slices.IndexFunc, slices.DeleteFunc at pointers to flows. -/
namespace Go.Proofs.YtepaanpdjadakaaGreatDoor
open Go Go.RowKit

section
variable {B : Nat} {w0 w w' : World} {A : HP} {p : FIt → Bool} {l : List FIt} {g : Nat} {lb : Array Value} {v : Value}
set_option maxRecDepth 8000 in
set_option maxHeartbeats 4000000 in
theorem indexW_any (eg : ∀ args w, (callFunc g args).run Tryz.prog w = .ok (.enter g args) w) (hn : l.length ≤ 1000)
    (hp : ∀ x W G, x ∈ l → Sat B w0 W (A • G) → Calls Tryz.prog g (#[.pointer (some ⟨x.key.p, 0, none⟩)] ++ lb) W fun e w' => e = .returned (.bool (p x)) ∧ Sat B w0 w' (A • G))
    (h : Sat B w0 w (arr 69 1 v l.length (l.flatMap ptrC) • A)) :
    Calls Tryz.prog 55 #[v, .func (.func g) #[] lb] w fun e w' => e = .returned (.int .i64 (plc p l)) ∧ Sat B w0 w' (arr 69 1 v l.length (l.flatMap ptrC) • A) := by
  obtain ⟨A0, c0, rfl⟩ := h.arr_form
  have HP := Lib.hid hp
  clear hp
  go_enter Tryz.func55, Tryz.ntmps55
  go_wp2_with fail
  go_loopw [5, 8] (fun _ s wr => ∃ k : Nat, k ≤ l.length ∧ s = .int .i64 k ∧ Sat B w0 wr (arr 69 1 (.slice A0 l.length c0) l.length (l.flatMap ptrC) • A) ∧ Hid (∀ j y, j < k → l[j]? = some y → p y = false)) (fun _ s _ => l.length - (intOf s).toNat)
  case atStart => exact ⟨0, Nat.zero_le _, rfl, h, Lib.hid fun j y hj => absurd hj (Nat.not_lt_zero _)⟩
  case round =>
    clear h
    obtain ⟨k, hk, rfl, hS, HK⟩ := hrel
    by_cases hlt : k < l.length
    · obtain ⟨x, hxk⟩ : ∃ x, l[k]? = some x := ⟨_, List.getElem?_eq_getElem hlt⟩
      obtain ⟨b, rfl, _, hc⟩ := hS.arr_at ptrC_length rfl hxk
      have dp := hc 0 (.pointer (some ⟨x.key.p, 0, none⟩)) rfl
      rw [Nat.mul_one, Nat.add_zero] at dp
      have hcall := HP.out x wr _ (List.mem_of_getElem? hxk) hS.swap
      have hltz : (k : Int) < l.length := by omega
      have HX := Lib.hid hxk
      clear hxk hS hc
      generalize x.key.p = xp at *
      cases hq : p x with
      | true =>
        rw [hq] at hcall
        have HQ := Lib.hid hq
        clear hq
        go_wp2_with (go_at_fn g; refine hcall.mono ?_; rintro e w2 ⟨rfl, hS2⟩)
        go_ret
        rw [plc_hit HX.out HQ.out HK.out]
        exact ⟨rfl, hS2.swap⟩
      | false =>
        rw [hq] at hcall
        have HQ := Lib.hid hq
        clear hq
        go_wp2_with (go_at_fn g; refine hcall.mono ?_; rintro e w2 ⟨rfl, hS2⟩)
        go_roundw
        case rel => exact ⟨k + 1, by omega, by go_num, hS2.swap, Lib.hid (plc_next HK.out HX.out HQ.out)⟩
        case measure => simp [intOf]; omega
    · obtain rfl : k = l.length := by omega
      have hltz : ¬ (l.length : Int) < l.length := by omega
      go_wp2_with fail
      go_ret
      rw [plc_done HK.out (Nat.le_refl _)]
      exact ⟨rfl, hS⟩
theorem witem_info : (Tryz.prog.info? 69).map (·.size) = some 1 := by kernel_rfl
theorem witem_zero : ∃ z, (∀ w, (zeroValue 69).run Tryz.prog w = .ok z w) ∧ z.cells.size = 1 ∧ z.cells.toList.all (·.oneCell') = true := by
  obtain ⟨i, hi, hz⟩ := Option.map_eq_some_iff.1 (show (Tryz.prog.info? 69).map (fun i => (i.zero.map fun z => (z.cells.size, z.cells.toList.all (·.oneCell')))) = some (some (1, true)) by kernel_rfl)
  obtain ⟨z, hz1, hz2⟩ := Option.map_eq_some_iff.1 hz
  simp only [Prod.mk.injEq] at hz2
  refine ⟨z, fun w => ?_, hz2.1, hz2.2⟩
  simp [zeroValue, typeInfo, hi, hz1]
set_option maxRecDepth 8000 in
set_option maxHeartbeats 8000000 in
theorem deleteW_any (eg : ∀ args w, (callFunc g args).run Tryz.prog w = .ok (.enter g args) w) (hn : l.length ≤ 1000)
    (hp : ∀ x W G, x ∈ l → Sat B w0 W (A • G) → Calls Tryz.prog g (#[.pointer (some ⟨x.key.p, 0, none⟩)] ++ lb) W fun e w' => e = .returned (.bool (p x)) ∧ Sat B w0 w' (A • G))
    (h : Sat B w0 w (arr 69 1 v l.length (l.flatMap ptrC) • A)) :
    Calls Tryz.prog 37 #[v, .func (.func g) #[] lb] w fun e w' => ∃ v', e = .returned v' ∧ Sat B w0 w' (arr 69 1 v' (l.filter fun x => !p x).length ((l.filter fun x => !p x).flatMap ptrC) • A) := by
  have c1 := indexW_any (p := p) (v := v) eg hn hp h
  obtain ⟨A0, c0, rfl⟩ := h.arr_form
  rcases plc_cases p l with ⟨e1, hno⟩ | ⟨k, x, hx, hpx, e1, hfirst⟩
  · rw [e1] at c1
    rw [filter_none hno]
    clear hno e1 h hp
    go_enter Tryz.func37, Tryz.ntmps37
    go_wp2_with fail
    refine c1.mono ?_
    rintro e w1 ⟨rfl, hS1⟩
    go_wp2_with fail
    go_ret
    exact ⟨_, rfl, hS1⟩
  · rw [e1] at c1
    have hkl := (List.getElem?_eq_some_iff.1 hx).1
    have hc0 : ∃ c : List FIt, c.length = l.length ∧ c.take k = (l.take (k + 1)).filter (fun x => !p x) ∧ c.drop (k + 1) = l.drop (k + 1) ∧ c = l := by
      refine ⟨l, rfl, ?_, rfl, rfl⟩
      have := (stay_down (i := k) (c := l) (p := p) (j := k) (take_none hfirst).symm rfl hx hpx).1
      exact this
    obtain ⟨cl, hcl, hc1, hc2, hce⟩ := hc0
    have hkb : ((k : Int) == -1) = false := by rw [beq_eq_false_iff_ne]; omega
    have H0 := Lib.hid (And.intro hc1 hc2)
    have HP := Lib.hid hp
    have HE := Lib.hid hce
    clear e1 hx hpx hfirst hc1 hc2 hp hce h
    go_enter Tryz.func37, Tryz.ntmps37
    go_wp2_with fail
    refine c1.mono ?_
    rintro e w1 ⟨rfl, hS1⟩
    have hS1' : Sat B w0 w1 (arr 69 1 (.slice A0 l.length c0) l.length (cl.flatMap ptrC) • A) := by rw [HE.out]; exact hS1
    clear c1 hS1
    go_wp2_with fail
    go_loopw [5, 6, 7] (fun s5 s6 _ wr => ∃ (i j : Nat) (c : List FIt), i < j ∧ j ≤ l.length ∧ c.length = l.length ∧ s5 = .int .i64 i ∧ s6 = .int .i64 j ∧ Sat B w0 wr (arr 69 1 (.slice A0 l.length c0) l.length (c.flatMap ptrC) • A) ∧ Hid (c.take i = (l.take j).filter (fun x => !p x) ∧ c.drop j = l.drop j)) (fun _ s6 _ _ => l.length - (intOf s6).toNat)
    case atStart => exact ⟨k, k + 1, cl, by omega, by omega, hcl, rfl, by go_num, hS1', H0⟩
    case round =>
      clear hS1' H0 hcl HE
      obtain ⟨i, j, c, hij, hj, hcl, rfl, rfl, hS, HK⟩ := hrel
      by_cases hlt : j < l.length
      · obtain ⟨x, hxj⟩ : ∃ x, l[j]? = some x := ⟨_, List.getElem?_eq_getElem hlt⟩
        have hcx : c[j]? = some x := by
          have := congrArg (fun z => z[0]?) HK.out.2
          simp only [List.getElem?_drop, Nat.add_zero] at this
          rw [this, hxj]
        have hltz : (j : Int) < l.length := by omega
        rcases hS.arr_open with ⟨_, h0, _, _⟩ | ⟨b, cap, cur, hv, q1, q2, q3, q4, hO⟩
        · omega
        simp only [Value.slice.injEq] at hv
        obtain ⟨rfl, _, rfl⟩ := hv
        have hcu := cur_at ptrC_length q4 hcx 0 _ rfl
        rw [Nat.mul_one, Nat.add_zero] at hcu
        have dp : wr.cell? ⟨b, j, none⟩ = some (.pointer (some ⟨x.key.p, 0, none⟩)) := cell_heap hO.heap hcu
        have hcall := HP.out x wr _ (List.mem_of_getElem? hxj) hO.swap
        have HX := Lib.hid hxj
        have Q4 := Lib.hid q4
        have HS := Lib.hid hS
        clear hxj hcx hS hO q4 hcu
        cases hq : p x with
        | true =>
          rw [hq] at hcall
          have hsd := stay_down HK.out.1 HK.out.2 HX.out hq
          have HD := Lib.hid hsd
          generalize x.key.p = xp at *
          clear hq hsd
          go_wp2_with (go_at_fn g; refine hcall.mono ?_; rintro e w2 ⟨rfl, hS2⟩)
          go_roundw
          case rel =>
            refine ⟨i, j + 1, c, by omega, by omega, hcl, rfl, by go_num, ?_, HD⟩
            exact Sat.arr_shut q1 q2 q3 Q4.out hS2.swap
          case measure => simp [intOf]; omega
        | false =>
          rw [hq] at hcall
          have hsd := move_down hcl HK.out.1 HK.out.2 (by omega) HX.out hq
          have HD := Lib.hid hsd
          clear hq hsd
          have htk := take_splice_set ptrC_length (by decide) Q4.out hcl (by rw [q3]; exact Nat.mul_le_mul_right _ q1) (show i < l.length by omega) x
          have hij2 : i < cur.size := by omega
          have hpc : ptrC x = [.pointer (some ⟨x.key.p, 0, none⟩)] := rfl
          rw [hpc, Nat.mul_one i, splice_one hij2] at htk
          have HTK := Lib.hid htk
          have H3 := Lib.hid q3
          clear htk hpc
          generalize x.key.p = xp at *
          go_wp2_with (go_at_fn g; refine hcall.mono ?_; rintro e w2 ⟨rfl, hS2⟩; refine stop_ ?_)
          unfold Stop
          obtain ⟨W4, hs4, hY2⟩ := one_store (o := i) (ty := 69) (u := .pointer (some ⟨xp, 0, none⟩)) hS2.swap (by kernel_rfl) hij2 rfl rfl
          have HY2 := Lib.hid (Sat.arr_shut q1 q2 (by simpa using H3.out) HTK.out hY2)
          clear hcall hS2 hY2 q3
          have hiz : (i : Int) < l.length := by omega
          go_wp2_with (refine wpList_store_run (t := 69) rfl rfl rfl rfl hs4 ?_)
          go_roundw
          case rel => exact ⟨i + 1, j + 1, c.set i x, by omega, by omega, HD.out.2.2, by go_num, by go_num, HY2.out, Lib.hid ⟨HD.out.1, HD.out.2.1⟩⟩
          case measure => simp [intOf]; omega
      · obtain rfl : j = l.length := by omega
        obtain ⟨e1, _⟩ := HK.out
        rw [List.take_length] at e1
        rcases hS.arr_open with ⟨_, h0, _, _⟩ | ⟨b, cap, cur, hv, q1, q2, q3, q4, hO⟩
        · omega
        simp only [Value.slice.injEq] at hv
        obtain ⟨rfl, _, rfl⟩ := hv
        obtain ⟨z, hz1, hz2, hz3⟩ := witem_zero
        obtain ⟨w3, cur3, hr3, hO3, hs3, ht3⟩ := hO.run_clear_tail (P := Tryz.prog) (i := i) (t := 64) (ty := 0) Tryz.underlying64 hz1 hz2 (by decide) (fun u hu => List.all_eq_true.1 hz3 u hu) (by omega) q1 q3
        have htl := run_tail (P := Tryz.prog) (w := wr) (t := 64) (e := 69) (g := b) (sz := 1) (k := i) (n := l.length) (c := c0) (kd := .i64) Tryz.underlying64 witem_info (by omega) q1
        have hhd := run_head (P := Tryz.prog) (w := w3) (t := 64) (e := 69) (sz := 1) (k := i) (n := l.length) (c := c0) (kd := .i64) (A := some ⟨b, 0, none⟩) Tryz.underlying64 witem_info (by omega)
        have hil : (l.filter fun x => !p x).length = i := by rw [← e1, List.length_take]; omega
        have hfin : Sat B w0 w3 (arr 69 1 (.slice (some ⟨b, 0, none⟩) i c0) (l.filter fun x => !p x).length ((l.filter fun x => !p x).flatMap ptrC) • A) := by
          rw [hil]
          refine Sat.arr_shut (by omega) q2 (hs3.trans q3) ?_ hO3
          rw [ht3]
          have h5 : cur.toList.take (i * 1) = (cur.toList.take (l.length * 1)).take (i * 1) := by
            rw [List.take_take, Nat.min_eq_left (Nat.mul_le_mul_right _ (by omega))]
          rw [h5, q4, ← e1]
          have h6 : c.flatMap ptrC = (c.take i).flatMap ptrC ++ (c.drop i).flatMap ptrC := by rw [← List.flatMap_append, List.take_append_drop]
          rw [h6, List.take_left']
          rw [flat_length ptrC_length, List.length_take]; congr 1; omega
        have HF := Lib.hid hfin
        clear hfin hil e1 hO3 hO hs3 ht3 q3 q4 hS hz1 hz2 hz3
        go_wp2_with fail
        go_ret
        exact ⟨_, rfl, HF.out⟩
end
end Go.Proofs.YtepaanpdjadakaaGreatDoor

/-! Flows: drop, Remove. -/
namespace Go.Proofs.YtepaanpdjadakaaGreatDoor
open Go Go.RowKit

attribute [local irreducible] wpOrd
def isP (p : Nat) (x : FIt) : Bool := decide (x.key.p = p)
theorem cut_same {R : List FIt} {next : Int} {k : Nat} {x : FIt} (hg : Good R next) (hp : (R.map (·.key.p)).Nodup) (hn : KNW R) (h : R[k]? = some x) :
    (R.filter fun y => !isP x.key.p y) = (R.filter fun y => !isW x.key.tup y) ∧ without (ents R) x.id = ents (R.filter fun y => !isW x.key.tup y) := by
  have h1 := cut_filter (key := fun y : FIt => y.key.p) hp h
  have h2 := cut_filter (key := fun y : FIt => y.key.tup) hn h
  have h3 := cut_filter (key := fun y : FIt => y.id) hg.1 h
  refine ⟨h1.symm.trans h2, ?_⟩
  have h4 : without (ents R) x.id = ents (R.filter fun y => !decide (y.id = x.id)) := by
    unfold without ents
    rw [List.filter_map]
    congr 1
  rw [h4, ← h3, h2]
  rfl
section
variable {B : Nat} {w0 w w' : World} {F : HP} {R : List FIt} {t room : Nat} {next : Int}
set_option maxRecDepth 8000 in
theorem dropW1_any {bx px py : Nat} {cx cy : Array Value} (h : Sat B w0 w (blk bx (.cells #[.pointer (some ⟨px, 0, none⟩)] 69) • F)) (hcx : w.heap[px]? = some (.cells cx 72)) (hcy : w.heap[py]? = some (.cells cy 72)) : Calls Tryz.prog 59 #[.pointer (some ⟨py, 0, none⟩), .pointer (some ⟨bx, 0, none⟩)] w fun e w' => e = .returned (.bool (decide (py = px))) ∧ w = w' := by
  have d1 : w.cell? ⟨bx, 0, none⟩ = some (.pointer (some ⟨px, 0, none⟩)) := cell_heap h.heap rfl
  clear h
  obtain ⟨j, hj, hsz⟩ := Option.map_eq_some_iff.1 (show (Tryz.prog.info? 72).map (·.size) = some 41 by kernel_rfl)
  by_cases e : py = px
  · subst e
    rw [decide_eq_true rfl]
    have hr := run_eql_ptr_same (P := Tryz.prog) w ⟨py, 0, none⟩ Tryz.underlying69 hj
    go_enter Tryz.func59, Tryz.ntmps59
    go_wp2_with fail
    go_ret
    exact ⟨rfl, rfl⟩
  · rw [decide_eq_false e]
    have hr := run_eql_ptr_other (P := Tryz.prog) w (a := ⟨px, 0, none⟩) (b := ⟨py, 0, none⟩) Tryz.underlying69 hj (by rw [hsz]; decide) (fun h => e (by cases h; rfl)) hcx hcy
    go_enter Tryz.func59, Tryz.ntmps59
    go_wp2_with fail
    go_ret
    exact ⟨rfl, rfl⟩
set_option maxRecDepth 8000 in
set_option maxHeartbeats 4000000 in
theorem flDrop_any (h : Sat B w0 w (fltab t room R next • F)) (hn : KNW R) {k : Nat} {x : FIt} (hx : R[k]? = some x) : Calls Tryz.prog 43 #[.pointer (some ⟨t, 0, none⟩), .pointer (some ⟨x.key.p, 0, none⟩)] w fun e w' => e = .returned (.tuple #[]) ∧ Sat B w0 w' (fltab t room (R.filter fun y => !isW x.key.tup y) next • F) := by
  have egd : ∀ args w, (callFunc 59 args).run Tryz.prog w = .ok (.enter 59 args) w := enters_of Tryz.func59 (by kernel_rfl) rfl
  obtain ⟨A, c, q, hg, hl1, hl2, hT⟩ := h.fl_open
  have hps := Sat.its_ps R F hT.drop.drop.drop
  obtain ⟨hc1, hc2⟩ := cut_same hg hps hn hx
  have hX := (hT.alloc (.cells #[.pointer (some ⟨x.key.p, 0, none⟩)] 69)).drew
  have hX4 := hX.drop.drop.drop.drop.it_heap hx
  have hC0 : (w.alloc (.cells #[.pointer (some ⟨x.key.p, 0, none⟩)] 69)).drew.cell? ⟨t, 1, none⟩ = some (.pointer (some ⟨q, 0, none⟩)) ∧ (w.alloc (.cells #[.pointer (some ⟨x.key.p, 0, none⟩)] 69)).drew.cell? ⟨w.heap.size, 0, none⟩ = some (.pointer (some ⟨x.key.p, 0, none⟩)) ∧ (w.alloc (.cells #[.pointer (some ⟨x.key.p, 0, none⟩)] 69)).drew.cell? ⟨x.key.p, 40, none⟩ = some (.int .i64 x.id) :=
    ⟨cell_heap hX.pull2.heap rfl, cell_heap hX.heap rfl, cell_heap hX4 (by simpa using flC_id x)⟩
  have c1 := qCancel_any (hX.to (by ac_rfl : _ = queue q room (ents R) • blk w.heap.size (.cells #[.pointer (some ⟨x.key.p, 0, none⟩)] 69) • blk t (.cells #[.slice A R.length c, .pointer (some ⟨q, 0, none⟩), .int .i64 next] 66) • arr 69 1 (.slice A R.length c) R.length (R.flatMap ptrC) • its R F)) x.id
  rw [hc2] at c1
  have HC1 := Lib.hid hc1
  have HG := Lib.hid (hg.sub (List.filter_sublist (p := fun y => !isW x.key.tup y)))
  have hfl : (R.filter fun y => !isW x.key.tup y).length ≤ R.length := List.length_filter_le _ _
  have hRl : R.length ≤ 1000 := by omega
  have hit : ∀ y ∈ R, ∀ W G, Sat B w0 W ((blk w.heap.size (.cells #[.pointer (some ⟨x.key.p, 0, none⟩)] 69) • blk t (.cells #[.slice A R.length c, .pointer (some ⟨q, 0, none⟩), .int .i64 next] 66) • queue q room (ents (R.filter fun y => !isW x.key.tup y)) • its R F) • G) → W.heap[y.key.p]? = some (.cells (flC y).toArray 72) := by
    intro y hy W G hW
    obtain ⟨j, hj⟩ := List.mem_iff_getElem?.1 hy
    exact hW.left.drop.drop.drop.it_heap hj
  have HIT := Lib.hid hit
  have HX := Lib.hid hx
  clear hX4 hX hT h hn hx hps hc1 hc2 hg hl1 hit
  generalize x.key.tup = tu at *
  generalize hpx : x.key.p = px at *
  generalize x.id = xi at *
  generalize hbx : w.heap.size = bx at *
  go_enter Tryz.func43, Tryz.ntmps43
  go_wp2_with fail
  try rw [hbx]
  try go_frame
  refine wp_region_ord [(0, .pure), (1, .pure), (2, .pure), (3, .quiet), (4, .quiet), (5, .pure), (6, .pure), (7, .quiet), (8, .seals)] (by kernel_rfl) (by kernel_rfl)
    (fun w' => w'.cell? ⟨t, 1, none⟩ = some (.pointer (some ⟨q, 0, none⟩)) ∧ w'.cell? ⟨bx, 0, none⟩ = some (.pointer (some ⟨px, 0, none⟩)) ∧ w'.cell? ⟨px, 40, none⟩ = some (.int .i64 xi)) hC0 ?_
  iterate 3 (refine ord_pure rfl rfl rfl (fun K' hK => ?_); go_big_quiet_op; refine hK _ ?_; clear hK K')
  refine ord_load (t := 62) rfl rfl rfl (p := .pointer (some ⟨t, 1, none⟩)) (v := .pointer (some ⟨q, 0, none⟩)) rfl (fun w' hC => load_one Tryz.underlying62 rfl hC.1) (fun K' hK => ?_)
  go_simp
  refine hK _ ?_
  clear hK K'
  refine ord_load (t := 69) rfl rfl rfl (p := .pointer (some ⟨bx, 0, none⟩)) (v := .pointer (some ⟨px, 0, none⟩)) rfl (fun w' hC => load_one Tryz.underlying69 rfl hC.2.1) (fun K' hK => ?_)
  go_simp
  refine hK _ ?_
  clear hK K'
  iterate 2 (refine ord_pure rfl rfl rfl (fun K' hK => ?_); go_big_quiet_op; refine hK _ ?_; clear hK K')
  refine ord_load (t := 3) rfl rfl rfl (p := .pointer (some ⟨px, 40, none⟩)) (v := .int .i64 xi) rfl (fun w' hC => load_one Tryz.underlying3 rfl hC.2.2) (fun K' hK => ?_)
  go_simp
  refine hK _ ?_
  clear hK K'
  refine ord_seals rfl rfl (fun K' hK => ?_)
  go_simp
  refine (c1).mono ?_
  rintro e w3 ⟨rfl, hS3⟩
  refine hK (fun _ => True) _ _ trivial ?_
  clear hK K'
  go_simp
  refine ord_nil ?_
  have cd := deleteW_any (B := B) (w0 := w0) (p := isP px) (l := R) (g := 59) (lb := #[.pointer (some ⟨bx, 0, none⟩)]) (v := .slice A R.length c) (A := blk bx (.cells #[.pointer (some ⟨px, 0, none⟩)] 69) • blk t (.cells #[.slice A R.length c, .pointer (some ⟨q, 0, none⟩), .int .i64 next] 66) • queue q room (ents (R.filter fun y => !isW tu y)) • its R F) egd hRl
    (fun y W G hy hS => (dropW1_any (cx := (flC x).toArray) (cy := (flC y).toArray) (hS.to (by rw [star_assoc])) (by have := HIT.out x (List.mem_of_getElem? HX.out) W G hS; rwa [hpx] at this) (HIT.out y hy W G hS)).mono fun e w' ⟨he, hs⟩ => ⟨he, hs ▸ hS⟩) (hS3.to (by ac_rfl))
  rw [HC1.out] at cd
  have d1 : w3.cell? ⟨t, 0, none⟩ = some (.slice A R.length c) := cell_heap hS3.pull3.heap rfl
  clear hS3 hC0 egd hbx hpx
  go_wp2_with fail
  refine cd.mono ?_
  rintro e w4 ⟨v4, rfl, hS4⟩
  obtain ⟨A4, c4, rfl⟩ := hS4.arr_form
  obtain ⟨w5, hr5, hS5⟩ := one_store (o := 0) (ty := 64) (u := .slice A4 (R.filter fun y => !isW tu y).length c4) hS4.pull3 (by kernel_rfl) (by simp) rfl rfl
  have h6 := hS5.to (by ac_rfl : _ = blk bx (.cells #[.pointer (some ⟨px, 0, none⟩)] 69) • blk t (.cells (#[Value.slice A R.length c, .pointer (some ⟨q, 0, none⟩), .int .i64 next].setIfInBounds 0 (.slice A4 (R.filter fun y => !isW tu y).length c4)) 66) • arr 69 1 (.slice A4 (R.filter fun y => !isW tu y).length c4) (R.filter fun y => !isW tu y).length ((R.filter fun y => !isW tu y).flatMap ptrC) • queue q room (ents (R.filter fun y => !isW tu y)) • its R F)
  have h7 := h6.drop
  rw [← its_star, ← its_star, ← its_star] at h7
  have h8 := Sat.its_filter (fun y => !isW tu y) R _ h7
  rw [its_star, its_star, its_star] at h8
  have HF := Lib.hid (Sat.fl_shut (v := .slice A4 (R.filter fun y => !isW tu y).length c4) (q := q) HG.out h8)
  clear h8 h7 h6 hS5 hS4 cd
  go_wp2_with (refine wpList_store_run (t := 64) rfl rfl rfl rfl hr5 (stop_ ?_))
  unfold Stop
  go_wp2_with fail
  refine bodyPost_end (results_none (by rfl) _ _ _) (by rfl) ?_
  exact ⟨rfl, HF.out⟩
theorem isW_none {q : Tup} (h : R.any (isW q) = false) : (R.filter fun y => !isW q y) = R := by
  rw [List.filter_eq_self]
  intro x hx
  rw [List.any_eq_false] at h
  have := h x hx
  simpa using this
set_option maxRecDepth 8000 in
set_option maxHeartbeats 2000000 in
theorem flRemove_any (h : Sat B w0 w (fltab t room R next • F)) (hn : KNW R) (q : Tup) : Calls Tryz.prog 15 #[.pointer (some ⟨t, 0, none⟩), .agg q.enc.toArray] w fun e w' => e = .returned (.bool (R.any (isW q))) ∧ Sat B w0 w' (fltab t room (R.filter fun y => !isW q y) next • F) := by
  have hX := h.alloc (.cells q.enc.toArray 37)
  have hl1 := run_loadAt_row (P := Tryz.prog) (o := 0) (ty := 37) (cs := q.enc) hX.heap Tryz.underlying37 rfl (by rw [Tup.enc_length]; kernel_rfl) (fun j u hu => by simpa using hu)
  have c1 := flFind_any hX.pull2 q
  clear h hX
  generalize q.enc.toArray = QE at *
  generalize hxb : w.heap.size = xb at *
  rcases ptrAt_cases R q with ⟨h1, h2, _⟩ | ⟨k, x, hx, hxq, h1, h2⟩
  · rw [h2] at c1
    rw [h1, isW_none h1]
    clear h1 h2
    go_enter Tryz.func15, Tryz.ntmps15
    go_wp2_with (refine wpList_load_run (t := 37) rfl rfl rfl hl1 ?_)
    try rw [hxb]
    refine c1.mono ?_
    rintro e w1 ⟨rfl, hS1⟩
    go_wp2_with fail
    go_ret
    exact ⟨rfl, hS1.pull2.drop⟩
  · rw [h2] at c1
    rw [h1]
    have HX := Lib.hid hx
    have HQ := Lib.hid hxq
    clear h1 h2 hx hxq
    go_enter Tryz.func15, Tryz.ntmps15
    go_wp2_with (refine wpList_load_run (t := 37) rfl rfl rfl hl1 ?_)
    try rw [hxb]
    refine c1.mono ?_
    rintro e w1 ⟨rfl, hS1⟩
    have c2 := flDrop_any hS1 hn HX.out
    rw [HQ.out] at c2
    clear c1 hS1 hl1
    generalize x.key.p = px at *
    go_wp2_with fail
    refine c2.mono ?_
    rintro e w2 ⟨rfl, hS2⟩
    go_wp2_with fail
    go_ret
    exact ⟨rfl, hS2.pull2.drop⟩
set_option maxRecDepth 8000 in
theorem flRemove_nil (q : Tup) (w : World) : Calls Tryz.prog 15 #[.pointer none, .agg q.enc.toArray] w fun e w' => e = .returned (.bool false) ∧ Below w.heap.size w w' := by
  have hX := (Sat.start w).alloc (.cells q.enc.toArray 37)
  have hl1 := run_loadAt_row (P := Tryz.prog) (o := 0) (ty := 37) (cs := q.enc) hX.heap Tryz.underlying37 rfl (by rw [Tup.enc_length]; kernel_rfl) (fun j u hu => by simpa using hu)
  have c1 := flFind_nil q
  generalize q.enc.toArray = QE at *
  go_enter Tryz.func15, Tryz.ntmps15
  go_wp2_with (refine wpList_load_run (t := 37) rfl rfl rfl hl1 ?_)
  refine (c1 _).mono ?_
  rintro e w1 ⟨rfl, hb⟩
  have hS := hX.below_ hb
  go_wp2_with fail
  go_ret
  exact ⟨rfl, hS.below⟩
end
end Go.Proofs.YtepaanpdjadakaaGreatDoor
