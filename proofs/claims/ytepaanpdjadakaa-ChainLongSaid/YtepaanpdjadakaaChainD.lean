import Derived.Test.YtepaanpdjadakaaAddr
import Derived.Test.YtepaanpdjadakaaElems
/-! Records, and what is found: the data of layer 15. -/
namespace Go.Proofs.Ytepaanpdjadakaa
open Go Go.RowKit

structure Rec where
  name : ByteArray
  typ : Int
  cls : Int
  ttl : Int
  addr : Adr
  tgt : ByteArray
  data : Value
  one : data.oneCell' = true
def Rec.enc (r : Rec) : List Value := [.string r.name, .int .i64 r.typ, .int .i64 r.cls, .int .u32 r.ttl] ++ r.addr.enc ++ [.string r.tgt, r.data]
theorem Rec.enc_length (r : Rec) : r.enc.length = 23 := by simp [Rec.enc, r.addr.enc_length]
theorem Rec.enc_one (r : Rec) : ∀ u ∈ r.enc, u.oneCell' = true := by
  intro u hu
  simp only [Rec.enc, List.mem_append, List.mem_cons, List.not_mem_nil, or_false] at hu
  rcases hu with ((rfl | rfl | rfl | rfl) | hu) | rfl | rfl
  · rfl
  · rfl
  · rfl
  · rfl
  · exact r.addr.enc_one u hu
  · rfl
  · exact r.one
theorem Rec.at0 (r : Rec) : r.enc[0]? = some (.string r.name) := rfl
theorem Rec.at1 (r : Rec) : r.enc[1]? = some (.int .i64 r.typ) := rfl
theorem Rec.at2 (r : Rec) : r.enc[2]? = some (.int .i64 r.cls) := rfl
theorem Rec.at3 (r : Rec) : r.enc[3]? = some (.int .u32 r.ttl) := rfl
theorem Rec.at4 (r : Rec) (j : Nat) (u : Value) (h : r.addr.enc[j]? = some u) : r.enc[4 + j]? = some u := by
  have hj := (List.getElem?_eq_some_iff.1 h).1
  unfold Rec.enc
  rw [List.append_assoc, List.getElem?_append_right (by simp), List.getElem?_append_left (by simp; omega)]
  simpa using h
theorem Rec.at21 (r : Rec) : r.enc[21]? = some (.string r.tgt) := by
  unfold Rec.enc
  rw [List.getElem?_append_right (by simp [r.addr.enc_length])]
  simp [r.addr.enc_length]

def Rec.isAddr (r : Rec) : Bool := (r.cls == 1) && ((r.typ == 1) || (r.typ == 28))
def Rec.isAlias (r : Rec) : Bool := (r.cls == 1) && (r.typ == 5)

structure Fnd where
  addr : Adr
  ttl : Int
  deriving DecidableEq
def Fnd.enc (f : Fnd) : List Value := f.addr.enc ++ [.int .u32 f.ttl]
theorem Fnd.enc_length (f : Fnd) : f.enc.length = 18 := by simp [Fnd.enc, f.addr.enc_length]
theorem Fnd.enc_one (f : Fnd) : ∀ u ∈ f.enc, u.oneCell' = true := by
  intro u hu
  simp only [Fnd.enc, List.mem_append, List.mem_cons, List.not_mem_nil, or_false] at hu
  rcases hu with hu | rfl
  · exact f.addr.enc_one u hu
  · rfl
theorem Fnd.at0 (f : Fnd) (j : Nat) (u : Value) (h : f.addr.enc[j]? = some u) : f.enc[j]? = some u := by
  have hj := (List.getElem?_eq_some_iff.1 h).1
  unfold Fnd.enc
  rw [List.getElem?_append_left hj]; exact h
theorem Fnd.at17 (f : Fnd) : f.enc[17]? = some (.int .u32 f.ttl) := by
  unfold Fnd.enc
  rw [List.getElem?_append_right (by simp [f.addr.enc_length])]
  simp [f.addr.enc_length]
theorem fnd_eq {w : World} (d : Nat) (a b : Fnd) : EqV Try.prog w (d + 4) 49 (.agg a.enc.toArray) (.agg b.enc.toArray) (decide (a = b)) := by
  have h1 := adr_eq (w := w) d a.addr b.addr
  have h0 : EqV Try.prog w (d + 3) 47 (.int .u32 a.ttl) (.int .u32 b.ttl) (a.ttl == b.ttl) := EqV.int Try.underlying47
  have hd : decide (a = b) = (decide (a.addr = b.addr) && ((a.ttl == b.ttl) && true)) := by
    obtain ⟨v, l⟩ := a
    obtain ⟨v', l'⟩ := b
    rw [Bool.eq_iff_iff]; simp
  rw [hd]
  refine EqV.struct Try.underlying49 (by kernel_rfl) ?_
  refine EqF.cons (by decide) (run_part_row Try.underlying46 rfl (mid := a.addr.enc) (by rw [Adr.enc_length]; kernel_rfl) (by simp [Fnd.enc])) (run_part_row Try.underlying46 rfl (mid := b.addr.enc) (by rw [Adr.enc_length]; kernel_rfl) (by simp [Fnd.enc])) h1 ?_
  refine EqF.cons (by decide) (run_part_one Try.underlying47 rfl a.at17) (run_part_one Try.underlying47 rfl b.at17) h0 ?_
  exact EqF.nil

/-! What the document says -/
def nextOf (l : List Rec) (name : ByteArray) : Option Rec := l.find? fun r => r.isAlias && (r.name.toList == name.toList)
def addFound (name : ByteArray) (ttl : Int) (out : List Fnd) (r : Rec) : List Fnd :=
  if r.isAddr && (r.name.toList == name.toList) && !(out.any fun x => decide (x.addr = r.addr)) then out ++ [⟨r.addr, if r.ttl < ttl then r.ttl else ttl⟩] else out
def foundOf (l : List Rec) (name : ByteArray) (ttl : Int) : List Fnd := l.foldl (addFound name ttl) []
def hasName (names : List ByteArray) (s : ByteArray) : Bool := names.any fun x => x.toList == s.toList
def followFrom (l : List Rec) : Nat → List ByteArray → ByteArray → Int → List Fnd × List ByteArray
  | 0, _, _, _ => ([], [])
  | k + 1, names, name, ttl =>
    match nextOf l name with
    | none => (foundOf l name ttl, names)
    | some r => if hasName names r.tgt || decide (16 ≤ names.length) then ([], []) else followFrom l k (names ++ [r.tgt]) r.tgt (if r.ttl < ttl then r.ttl else ttl)
def followOf (l : List Rec) (name : ByteArray) : List Fnd × List ByteArray := followFrom l 16 [name] name 4294967295
end Go.Proofs.Ytepaanpdjadakaa
