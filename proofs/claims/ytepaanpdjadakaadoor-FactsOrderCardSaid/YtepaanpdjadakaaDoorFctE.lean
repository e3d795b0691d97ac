import Derived.Test.YtepaanpdjadakaaDoorFct
import Derived.Test.YtepaanpdjadakaaDoorQry
/-! Facts held against each other. -/
namespace Go.Proofs.YtepaanpdjadakaaDoor
open Go Go.RowKit

theorem Fct.at0' (f : Fct) : f.enc[0]? = some (.string f.key.name) := rfl
theorem Fct.part1 (f : Fct) : (f.enc.drop 1).take f.key.adr.enc.length = f.key.adr.enc := by
  unfold Fct.enc Fk.enc
  rw [List.cons_append, List.drop_succ_cons, List.drop_zero, List.take_left']
  rfl
theorem fct_eq {w : World} (d : Nat) (a b : Fct) : EqV Tryd.prog w (d + 4) 99 (.agg a.enc.toArray) (.agg b.enc.toArray) (decide (a = b)) := by
  have hd : decide (a = b) = (decide (a.key.name = b.key.name) && (decide (a.key.adr = b.key.adr) && ((a.due == b.due) && true))) := by
    obtain ⟨⟨a1, a2⟩, a3⟩ := a
    obtain ⟨⟨b1, b2⟩, b3⟩ := b
    rw [Bool.eq_iff_iff]; simp [and_assoc]
  rw [hd]
  refine EqV.struct Tryd.underlying99 (by kernel_rfl) ?_
  refine EqF.cons (a := .string a.key.name) (b := .string b.key.name) (by decide) (run_part_one Tryd.underlying9 rfl a.at0') (run_part_one Tryd.underlying9 rfl b.at0') (str_eqv Tryd.underlying9 _ _) ?_
  refine EqF.cons (by decide) (run_part_row Tryd.underlying63 rfl (by rw [Adr.enc_length]; kernel_rfl) a.part1) (run_part_row Tryd.underlying63 rfl (by rw [Adr.enc_length]; kernel_rfl) b.part1) (adr_eq d _ _) ?_
  refine EqF.cons (by decide) (run_part_one Tryd.underlying23 rfl a.at18) (run_part_one Tryd.underlying23 rfl b.at18) (EqV.int Tryd.underlying23) ?_
  exact EqF.nil
end Go.Proofs.YtepaanpdjadakaaDoor
