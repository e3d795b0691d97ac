import Derived.Test.YtepaanpdjadakaaDoorPendA
import Derived.Test.YtepaanpdjadakaaDoorFullW
import Derived.Test.YtepaanpdjadakaaDoorSeq
import Derived.Deep.Cut
/-! PendingOnce, in plain words. -/
namespace Go.Proofs.YtepaanpdjadakaaDoor
open Go Go.RowKit

theorem bv_wrap (k : IntKind) (x : Int) : BitVec.ofInt k.bits (k.wrap x) = BitVec.ofInt k.bits x := by
  cases k <;> (apply BitVec.eq_of_toInt_eq; simp only [BitVec.toInt_ofInt, IntKind.wrap]; simp [IntKind.bits, IntKind.signed, Int.bmod_def]; try omega)
theorem xor_ne (k : IntKind) (a : Int) : bits .xor k a 1 ≠ a := by
  intro h
  have h1 : BitVec.ofInt k.bits (bits .xor k a 1) = BitVec.ofInt k.bits a ^^^ BitVec.ofInt k.bits 1 := by
    unfold bits
    rw [bv_wrap]
    show BitVec.ofInt k.bits (((BitVec.ofInt k.bits a ^^^ BitVec.ofInt k.bits 1).toNat : Nat) : Int) = _
    rw [BitVec.ofInt_natCast, BitVec.ofNat_toNat, BitVec.setWidth_eq]
  rw [h] at h1
  have h2 : BitVec.ofInt k.bits 1 = 0#k.bits := by
    have := congrArg (BitVec.ofInt k.bits a ^^^ ·) h1
    simp only [← BitVec.xor_assoc, BitVec.xor_self, BitVec.zero_xor] at this
    exact this.symm
  have h3 := congrArg BitVec.toNat h2
  cases k <;> simp [IntKind.bits] at h3
theorem Qry.set34 (q : Qry) (j : Nat) (u : Value) : q.enc.toArray.setIfInBounds (34 + j) u = (q.client.enc ++ (q.server.enc ++ ((([.int .i64 q.port, .int .i64 q.id, .bool q.tcp] : List Value) ++ q.qst.enc).set j u))).toArray := by
  rw [List.setIfInBounds_toArray]
  congr 1
  unfold Qry.enc
  rw [List.set_append_right _ _ (by rw [Adr.enc_length]; omega), List.set_append_right _ _ (by rw [Adr.enc_length, Adr.enc_length]; omega), Adr.enc_length, Adr.enc_length]
  rw [show 34 + j - 17 - 17 = j by omega]
theorem Adr.set_b (a : Adr) (i : Nat) (n : Int) : a.enc.set (i + 1) (.int .u8 n) = (Adr.enc ⟨a.v6, a.b.set i n, by simp [a.len]⟩) := by
  simp [Adr.enc, List.map_set]
theorem Qry.set0 (q : Qry) (i : Nat) (hi : i < 16) (n : Int) : q.enc.toArray.setIfInBounds (i + 1) (.int .u8 n) = (Qry.enc { q with client := ⟨q.client.v6, q.client.b.set i n, by simp [q.client.len]⟩ }).toArray := by
  rw [List.setIfInBounds_toArray]
  congr 1
  unfold Qry.enc
  rw [List.set_append_left _ _ (by rw [Adr.enc_length]; omega), Adr.set_b]
theorem Qry.set17 (q : Qry) (i : Nat) (hi : i < 16) (n : Int) : q.enc.toArray.setIfInBounds (17 + (i + 1)) (.int .u8 n) = (Qry.enc { q with server := ⟨q.server.v6, q.server.b.set i n, by simp [q.server.len]⟩ }).toArray := by
  rw [List.setIfInBounds_toArray]
  congr 1
  unfold Qry.enc
  rw [List.set_append_right _ _ (by rw [Adr.enc_length]; omega), List.set_append_left _ _ (by rw [Adr.enc_length, Adr.enc_length]; omega), Adr.enc_length, show 17 + (i + 1) - 17 = i + 1 by omega, Adr.set_b]
theorem b_get (a : Adr) (i : Nat) (hi : i < 16) : a.enc[i + 1]? = some (.int .u8 (a.b.getD i 0)) := by
  have : i < a.b.length := by rw [a.len]; exact hi
  simp [Adr.enc, List.getD, List.getElem?_eq_getElem this]
theorem set_ne (a : Adr) (i : Nat) (hi : i < 16) (n : Int) (h : n ≠ a.b.getD i 0) : a.b.set i n ≠ a.b := by
  intro e
  have hl : i < a.b.length := by rw [a.len]; exact hi
  have := congrArg (·[i]?) e
  simp only [List.getElem?_set_self hl, List.getElem?_eq_getElem hl, Option.some.injEq] at this
  exact h (by rw [this]; simp [List.getD, List.getElem?_eq_getElem hl])
theorem name_ne (a : ByteArray) : a ++ ⟨#[120]⟩ ≠ a := by
  intro h
  have := congrArg ByteArray.size h
  rw [ByteArray.size_append] at this
  have h1 : (⟨#[120]⟩ : ByteArray).size = 1 := rfl
  omega
/-- The plain end. -/
theorem once_gone (q : Qry) (u now : Int) : ([⟨q, 0, u⟩] : List (Itm Qry)).filter (fun x => !late now x) = if u ≤ now then [] else [⟨q, 0, u⟩] := by
  by_cases h : u ≤ now <;> simp [late, h]
theorem once_other {q o : Qry} (u : Int) (h : o ≠ q) : ([⟨q, 0, u⟩] : List (Itm Qry)).any (isQ o) = false ∧ ([⟨q, 0, u⟩] : List (Itm Qry)).filter (fun x => !isQ o x) = [⟨q, 0, u⟩] := by
  have : ¬ q = o := fun e => h e.symm
  simp [isQ, this]
theorem once_own (q : Qry) (u : Int) : ([⟨q, 0, u⟩] : List (Itm Qry)).any (isQ q) = true ∧ ([⟨q, 0, u⟩] : List (Itm Qry)).filter (fun x => !isQ q x) = [] := by
  simp [isQ]
theorem once_nil {q : Qry} : ([] : List (Itm Qry)).any (isQ q) = false ∧ True := ⟨rfl, trivial⟩
theorem once_add (q : Qry) (u : Int) : addC 4 [] q = 0 ∧ addR 4 [] 0 q u = [⟨q, 0, u⟩] ∧ addN 4 [] 0 q = 1 := by
  simp [addC, addR, addN]
end Go.Proofs.YtepaanpdjadakaaDoor
