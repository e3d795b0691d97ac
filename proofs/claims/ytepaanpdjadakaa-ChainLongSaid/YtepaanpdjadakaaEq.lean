import Derived.Test.YtepaanpdjadakaaUtil
import Derived.WalkKit
import Derived.Laws.StructEq
/-! '==' of structs and rows of bytes. -/
namespace Go.Proofs.Ytepaanpdjadakaa
open Go Go.RowKit

section
variable {P : Program} {w : World}

def isRowD : TypeDesc → Bool
  | .struct _ | .array _ _ => true
  | _ => false
theorem run_isAgg {t : TypeId} {d : TypeDesc} (hu : P.underlying t = some d) : (isAgg t).run P w = .ok (isRowD d) w := by
  unfold isAgg
  rw [Sem.run_bind, run_underlying hu w]
  cases d <;> rfl
/-- A part of some cells. -/
theorem run_part_row {t : TypeId} {d : TypeDesc} (hu : P.underlying t = some d) (hd : isRowD d = true) {xs mid : List Value} {o : Nat} (hi : (P.info? t).map (·.size) = some mid.length) (hx : (xs.drop o).take mid.length = mid) :
    (part t xs.toArray o).run P w = .ok (.agg mid.toArray) w := by
  cases hq : P.info? t with
  | none => simp [hq] at hi
  | some i =>
    have hs : i.size = mid.length := by simpa [hq] using hi
    simp only [part, Sem.run_bind, run_isAgg hu, hd, Result.andThen_ok, if_true]
    simp only [sizeOf, typeInfo, Sem.run_bind, run_program, Result.andThen_ok, hq, Sem.run_pure, hs]
    rw [List.extract_toArray, List.extract_eq_take_drop, Nat.add_sub_cancel_left, hx]
theorem run_part_one {t : TypeId} {d : TypeDesc} (hu : P.underlying t = some d) (hd : isRowD d = false) {xs : List Value} {v : Value} {o : Nat} (hx : xs[o]? = some v) :
    (part t xs.toArray o).run P w = .ok v w := by
  simp only [part, Sem.run_bind, run_isAgg hu, hd, Result.andThen_ok, Bool.false_eq_true, if_false]
  simp [hx]

/-- That two values are the same, or not. -/
def EqV (P : Program) (w : World) (d : Nat) (t : TypeId) (x y : Value) (r : Bool) : Prop := (Op.equalIn d t x y).run P w = .ok r w
def EqF (P : Program) (w : World) (d : Nat) (xs ys : List Value) (fs : List Field) (r : Bool) : Prop := (Op.eqFields d xs.toArray ys.toArray fs).run P w = .ok r w
variable {d : Nat} {xs ys : List Value} {f : Field} {fs : List Field} {r s : Bool}
theorem EqF.nil : EqF P w d xs ys [] true := by simp [EqF, Op.eqFields]
theorem EqF.cons {a b : Value} (hn : f.name ≠ "_") (ha : (part f.type xs.toArray f.offset).run P w = .ok a w) (hb : (part f.type ys.toArray f.offset).run P w = .ok b w) (he : EqV P w d f.type a b r) (hr : EqF P w d xs ys fs s) :
    EqF P w d xs ys (f :: fs) (r && s) := by
  unfold EqF EqV at *
  rw [Op.eqFields, if_pos hn]
  simp only [Sem.run_bind, ha, hb, he, Result.andThen_ok]
  cases r
  · simp
  · simpa using hr
theorem EqV.struct {t : TypeId} {fa : Array Field} (hu : P.underlying t = some (.struct fa)) (hp : P.stoodInHeld t = false) (h : EqF P w d xs ys fa.toList r) : EqV P w (d + 1) t (.agg xs.toArray) (.agg ys.toArray) r := by
  have hf : P.fieldsOf t = fa := by simp [Program.fieldsOf, hu]
  unfold EqV
  rw [run_equalIn_struct (P := P) w d t xs.toArray ys.toArray (by rw [hf]; exact hu) hp, hf]
  exact h
theorem EqV.int {t : TypeId} {k k' : IntKind} {a b : Int} (hu : P.underlying t = some (.int k')) : EqV P w (d + 1) t (.int k a) (.int k b) (a == b) := run_equalIn_int w d t k k' a b hu
theorem EqV.bool {t : TypeId} {a b : Bool} (hu : P.underlying t = some .bool) : EqV P w (d + 1) t (.bool a) (.bool b) (a == b) := run_equalIn_bool w d t a b hu
theorem EqV.string {t : TypeId} {a b : ByteArray} (hu : P.underlying t = some .string) : EqV P w (d + 1) t (.string a) (.string b) (a.toList == b.toList) := run_equalIn_string w d t a b hu

/-- A row of whole numbers. -/
theorem EqV.ints {t e : TypeId} {k k' : IntKind} {n : Nat} (hu : P.underlying t = some (.array n e)) (he : P.underlying e = some (.int k')) (hs : (P.info? e).map (·.size) = some 1) {la lb : List Int} (ha : la.length = n) (hb : lb.length = n) :
    EqV P w (d + 2) t (.agg (la.map (.int k)).toArray) (.agg (lb.map (.int k)).toArray) (decide (la = lb)) := by
  obtain ⟨i0, hi0, hsz⟩ := Option.map_eq_some_iff.1 hs
  have key : ∀ (l : List Nat) (la lb : List Int) (w : World), (∀ i ∈ l, i < la.length ∧ i < lb.length) →
      (forIn l ((none, ()) : Option Bool × Unit) (fun (i : Nat) (_ : Option Bool × Unit) => do
        let a ← part e (la.map (.int k)).toArray (i * 1)
        let b ← part e (lb.map (.int k)).toArray (i * 1)
        let r ← Op.equalIn (d + 1) e a b
        if (!r) = true then pure (ForInStep.done (some false, ())) else pure (ForInStep.yield (none, ())) : _ → _ → Sem (ForInStep (Option Bool × Unit)))).run P w =
        .ok (if ∀ i ∈ l, nth la i = nth lb i then (none, ()) else (some false, ())) w := by
    intro l
    induction l with
    | nil => intro la lb w _; simp [List.forIn_nil]
    | cons i l ih =>
      intro la lb w hl
      obtain ⟨h1, h2⟩ := hl i (by simp)
      have e1 : (part e (la.map (.int k)).toArray (i * 1)).run P w = .ok (.int k (nth la i)) w := run_part_one he rfl (by simp [nth_eq h1])
      have e2 : (part e (lb.map (.int k)).toArray (i * 1)).run P w = .ok (.int k (nth lb i)) w := run_part_one he rfl (by simp [nth_eq h2])
      simp only [List.forIn_cons, Sem.run_bind, e1, e2, Result.andThen_ok, run_equalIn_int w d e k k' _ _ he]
      by_cases hq : nth la i = nth lb i
      · simp only [hq, beq_self_eq_true, Bool.not_true, Bool.false_eq_true, if_false, Sem.run_pure, Result.andThen_ok]
        rw [ih la lb w (fun j hj => hl j (by simp [hj]))]
        simp [hq]
      · have hb' : (nth la i == nth lb i) = false := by simpa using hq
        simp only [hb', Bool.not_false, if_true, Sem.run_pure, Result.andThen_ok]
        simp [hq]
  have hall : (∀ i ∈ List.range' 0 n, nth la i = nth lb i) ↔ la = lb := by
    constructor
    · intro h
      apply List.ext_getElem?
      intro i
      by_cases hi : i < n
      · rw [nth_eq (by omega), nth_eq (by omega), h i (by simp [List.mem_range']; omega)]
      · rw [List.getElem?_eq_none (by omega), List.getElem?_eq_none (by omega)]
    · rintro rfl i _; rfl
  unfold EqV
  rw [Op.equalIn]
  simp only [Sem.run_bind, run_underlying hu, Result.andThen_ok, sizeOf, typeInfo, run_program, hi0, Sem.run_pure, hsz]
  rw [Std.Legacy.Range.forIn_eq_forIn_range']
  have hk := key (List.range' 0 n) la lb w (fun i hi => by simp [List.mem_range'] at hi; omega)
  have hr : List.range' [:n].start [:n].size [:n].step = List.range' 0 n := by simp [Std.Legacy.Range.size]
  rw [hr, hk, Result.andThen_ok]
  by_cases h : la = lb
  · rw [if_pos (hall.2 h)]; simp [h]
  · rw [if_neg (fun h' => h (hall.1 h'))]; simp [h]
end
end Go.Proofs.Ytepaanpdjadakaa
