import Derived.Test.YtepaanpdjadakaaDoorAddr
import Derived.Test.YtepaanpdjadakaaDoorSame
/-! Facts: keys and rows. -/
namespace Go.Proofs.YtepaanpdjadakaaDoor
open Go Go.RowKit

structure Fk where
  name : ByteArray
  adr : Adr
  deriving DecidableEq
instance : Inhabited Fk := ⟨⟨⟨#[]⟩, ⟨false, List.replicate 16 0, rfl⟩⟩⟩
def Fk.enc (f : Fk) : List Value := .string f.name :: f.adr.enc
abbrev Fk.enc_sz : Nat := 18
theorem Fk.enc_length (f : Fk) : f.enc.length = 18 := by simp [Fk.enc, Adr.enc_length]
theorem Fk.enc_one (f : Fk) : ∀ u ∈ f.enc, u.oneCell' = true := by
  intro u hu
  simp only [Fk.enc, List.mem_cons] at hu
  rcases hu with rfl | h
  · rfl
  · exact f.adr.enc_one u h
theorem Fk.at1 (f : Fk) (j : Nat) : f.enc[1 + j]? = f.adr.enc[j]? := by rw [Nat.add_comm]; rfl
/-- A fact: a key and its end. -/
structure Fct where
  key : Fk
  due : Int
  deriving DecidableEq
instance : Inhabited Fct := ⟨⟨default, 0⟩⟩
def Fct.enc (f : Fct) : List Value := f.key.enc ++ [.int .u64 f.due]
abbrev Fct.enc_sz : Nat := 19
theorem Fct.enc_length (f : Fct) : f.enc.length = 19 := by simp [Fct.enc, Fk.enc_length]
theorem Fct.enc_one (f : Fct) : ∀ u ∈ f.enc, u.oneCell' = true := by
  intro u hu
  simp only [Fct.enc, List.mem_append, List.mem_cons, List.not_mem_nil, or_false] at hu
  rcases hu with h | rfl
  · exact f.key.enc_one u h
  · rfl
theorem Fct.at18 (f : Fct) : f.enc[18]? = some (.int .u64 f.due) := by
  unfold Fct.enc
  rw [List.getElem?_append_right (by rw [Fk.enc_length]; omega), Fk.enc_length]
  rfl
theorem Fct.at0 (f : Fct) (j : Nat) (hj : j < 18) : f.enc[j]? = f.key.enc[j]? := by
  unfold Fct.enc
  rw [List.getElem?_append_left (by rw [Fk.enc_length]; exact hj)]
end Go.Proofs.YtepaanpdjadakaaDoor
