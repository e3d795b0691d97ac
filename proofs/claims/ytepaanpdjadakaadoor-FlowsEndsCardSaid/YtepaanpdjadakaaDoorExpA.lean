import Derived.Test.YtepaanpdjadakaaDoorBaseQ
import Derived.Test.YtepaanpdjadakaaDoorBase
/-! awake of layer 17. -/
namespace Go.Proofs.YtepaanpdjadakaaDoor
open Go Go.RowKit

theorem ent_eq {w : World} (d : Nat) (a b : Ent) : EqV Tryd.prog w (d + 2) 34 (.agg a.enc.toArray) (.agg b.enc.toArray) (decide (a = b)) := by
  have h1 : EqV Tryd.prog w (d + 1) 3 (.int .i64 a.id) (.int .i64 b.id) (a.id == b.id) := EqV.int Tryd.underlying3
  have h2 : EqV Tryd.prog w (d + 1) 23 (.int .u64 a.due) (.int .u64 b.due) (a.due == b.due) := EqV.int Tryd.underlying23
  have hd : decide (a = b) = ((a.id == b.id) && ((a.due == b.due) && true)) := by
    obtain ⟨v, l⟩ := a
    obtain ⟨v', l'⟩ := b
    rw [Bool.eq_iff_iff]; simp
  rw [hd]
  refine EqV.struct Tryd.underlying34 (by kernel_rfl) ?_
  refine EqF.cons (by decide) (run_part_one Tryd.underlying3 rfl rfl) (run_part_one Tryd.underlying3 rfl rfl) h1 ?_
  refine EqF.cons (by decide) (run_part_one Tryd.underlying23 rfl rfl) (run_part_one Tryd.underlying23 rfl rfl) h2 ?_
  exact EqF.nil
theorem ent_guard : Tryd.prog.eqGuardType Tryd.prog.depth 34 = false := by kernel_rfl
/-- '==' of two entries, as the walk asks it. -/
theorem ent_eql (a b : Ent) (w : World) : (binOp .eql 34 (.agg a.enc.toArray) (.agg b.enc.toArray)).run Tryd.prog w = .ok (.bool (decide (a = b))) w := by
  rw [run_eql_struct]
  rw [show (Op.equalIn 10000 34 (.agg a.enc.toArray) (.agg b.enc.toArray)).run Tryd.prog w = .ok (decide (a = b)) w from ent_eq 9998 a b]
  rfl
section
variable {B : Nat} {w0 w w' : World} {F : HP} {p q room : Nat} {L S : List Ent}
set_option maxRecDepth 8000 in
set_option maxHeartbeats 4000000 in
theorem awake17_any (w : World) (hE : Et w) : Calls Tryd.prog 20 #[] w fun e w' => e = .returned (.bool true) ∧ Below w.heap.size w w' := by
  have e0 : errV 0 = .nilIface := rfl
  have q1 : ∀ w, (Op.equalIn 10000 34 (.agg #[.int .i64 3, .int .u64 5]) (.agg #[.int .i64 3, .int .u64 5])).run Tryd.prog w = .ok true w := fun w => ent_eq 9998 ⟨3, 5⟩ ⟨3, 5⟩
  have q2 := ent_guard
  have c1 := qNew_any 5 (Sat.start w)
  rw [show roomOf 5 = 5 by decide] at c1
  go_enter Tryd.func20, Tryd.ntmps20
  go_wp2_with fail
  refine c1.mono ?_
  rintro e w1 ⟨q, rfl, hS1⟩
  have c2 := qPush_any hS1 (hS1.et hE.pos hE) 7 5
  rw [show pushC 5 [] 7 = 0 by decide, show pushS 5 [] 7 5 = [⟨7, 5⟩] by decide, e0] at c2
  clear c1
  go_wp2_with fail
  refine c2.mono ?_
  rintro e w2 ⟨rfl, hS2⟩
  have c3 := qPush_any hS2 (hS2.et hE.pos hE) 3 5
  rw [show pushC 5 [⟨7, 5⟩] 3 = 0 by decide, show pushS 5 [⟨7, 5⟩] 3 5 = [⟨7, 5⟩, ⟨3, 5⟩] by decide, e0] at c3
  clear c2 hS1
  go_wp2_with fail
  refine c3.mono ?_
  rintro e w3 ⟨rfl, hS3⟩
  have c4 := qNext_any hS3
  rw [show nextV [⟨7, 5⟩, ⟨3, 5⟩] = .tuple #[.agg #[.int .i64 3, .int .u64 5], .bool true] from rfl] at c4
  clear c3 hS2
  go_wp2_with fail
  refine c4.mono ?_
  rintro e w4 ⟨rfl, hb4⟩
  have hS4 := hS3.below_ hb4
  have hS5 := hS4.alloc_ (.cells #[.int .i64 3, .int .u64 5] 34)
  have c5 := qLen_any hS5
  rw [show (([⟨7, 5⟩, ⟨3, 5⟩] : List Ent).length : Int) = 2 from rfl] at c5
  clear c4 hS3 hb4
  go_wp2_with fail
  refine c5.mono ?_
  rintro e w5 ⟨rfl, rfl⟩
  go_wp2_with fail
  go_ret
  exact ⟨rfl, hS5.below⟩
end
end Go.Proofs.YtepaanpdjadakaaDoor
