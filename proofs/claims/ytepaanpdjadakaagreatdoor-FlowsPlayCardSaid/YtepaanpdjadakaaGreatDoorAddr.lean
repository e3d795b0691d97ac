import Derived.Test.YtepaanpdjadakaaGreatDoorProg
import Derived.Test.YtepaanpdjadakaaGreatDoorBase
import Derived.KernelRfl
/-! Addresses. -/
namespace Go.Proofs.YtepaanpdjadakaaGreatDoor
open Go Go.RowKit

/-- An address: its version, and its bytes. -/
structure Adr where
  v6 : Bool
  b : List Int
  len : b.length = 16
  deriving DecidableEq

def Adr.enc (a : Adr) : List Value := .bool a.v6 :: a.b.map (.int .u8)
theorem Adr.enc_length (a : Adr) : a.enc.length = 17 := by simp [Adr.enc, a.len]
theorem Adr.enc_one (a : Adr) : ∀ u ∈ a.enc, u.oneCell' = true := by
  intro u hu
  simp only [Adr.enc, List.mem_cons, List.mem_map] at hu
  rcases hu with rfl | ⟨x, _, rfl⟩ <;> rfl
theorem Adr.enc_inj {a b : Adr} (h : a.enc = b.enc) : a = b := by
  obtain ⟨v, l, hl⟩ := a
  obtain ⟨v', l', hl'⟩ := b
  simp only [Adr.enc, List.cons.injEq, Value.bool.injEq] at h
  obtain ⟨rfl, h⟩ := h
  obtain rfl : l = l' := by
    have h' : (l.map (Value.int .u8)).map intOf = (l'.map (Value.int .u8)).map intOf := by rw [h]
    simpa [Function.comp_def, intOf] using h'
  rfl

theorem adr_eq {w : World} (d : Nat) (a b : Adr) : EqV Tryz.prog w (d + 3) 35 (.agg a.enc.toArray) (.agg b.enc.toArray) (decide (a = b)) := by
  have h1 := EqV.ints (P := Tryz.prog) (w := w) (d := d) (k := .u8) (la := a.b) (lb := b.b) Tryz.underlying33 Tryz.underlying5 (by kernel_rfl) a.len b.len
  have h0 : EqV Tryz.prog w (d + 2) 4 (.bool a.v6) (.bool b.v6) (a.v6 == b.v6) := EqV.bool Tryz.underlying4
  have hd : decide (a = b) = ((a.v6 == b.v6) && (decide (a.b = b.b) && true)) := by
    obtain ⟨v, l, hl⟩ := a
    obtain ⟨v', l', hl'⟩ := b
    rw [Bool.eq_iff_iff]; simp
  rw [hd]
  refine EqV.struct Tryz.underlying35 (by kernel_rfl) ?_
  refine EqF.cons (a := .bool a.v6) (b := .bool b.v6) (by decide) (run_part_one Tryz.underlying4 rfl rfl) (run_part_one Tryz.underlying4 rfl rfl) h0 ?_
  refine EqF.cons (by decide) (run_part_row Tryz.underlying33 rfl (mid := a.b.map (.int .u8)) (by rw [List.length_map, a.len]; kernel_rfl) (List.take_of_length_le (Nat.le_refl _))) (run_part_row Tryz.underlying33 rfl (mid := b.b.map (.int .u8)) (by rw [List.length_map, b.len]; kernel_rfl) (List.take_of_length_le (Nat.le_refl _))) h1 ?_
  exact EqF.nil
end Go.Proofs.YtepaanpdjadakaaGreatDoor
