import Derived.Test.YtepaanpdjadakaaDoorAddr
import Derived.Test.YtepaanpdjadakaaDoorSame
/-! Queries. -/
namespace Go.Proofs.YtepaanpdjadakaaDoor
open Go Go.RowKit

structure Qst where
  name : ByteArray
  typ : Int
  cls : Int
  deriving DecidableEq
def Qst.enc (q : Qst) : List Value := [.string q.name, .int .i64 q.typ, .int .i64 q.cls]
structure Qry where
  client : Adr
  server : Adr
  port : Int
  id : Int
  tcp : Bool
  qst : Qst
  deriving DecidableEq
def Qry.enc (q : Qry) : List Value := q.client.enc ++ (q.server.enc ++ ([.int .i64 q.port, .int .i64 q.id, .bool q.tcp] ++ q.qst.enc))
abbrev Qry.enc_sz : Nat := 40
theorem Qst.enc_length (q : Qst) : q.enc.length = 3 := rfl
theorem Qry.enc_length (q : Qry) : q.enc.length = 40 := by simp [Qry.enc, Qst.enc, Adr.enc_length]
theorem Qry.enc_one (q : Qry) : ∀ u ∈ q.enc, u.oneCell' = true := by
  intro u hu
  simp only [Qry.enc, Qst.enc, List.mem_append, List.mem_cons, List.not_mem_nil, or_false] at hu
  rcases hu with h | h | (rfl | rfl | rfl) | rfl | rfl | rfl
  · exact q.client.enc_one u h
  · exact q.server.enc_one u h
  all_goals rfl
instance : Inhabited Adr := ⟨⟨false, List.replicate 16 0, rfl⟩⟩
instance : Inhabited Qry := ⟨⟨default, default, 0, 0, false, ⟨⟨#[]⟩, 0, 0⟩⟩⟩
theorem str_eqv {w : World} {d : Nat} {t : TypeId} (hu : Tryd.prog.underlying t = some .string) (a b : ByteArray) : EqV Tryd.prog w (d + 1) t (.string a) (.string b) (decide (a = b)) := by
  have := EqV.string (P := Tryd.prog) (w := w) (d := d) (t := t) (a := a) (b := b) hu
  rw [strl] at this
  exact this
theorem qst_eq {w : World} (d : Nat) (a b : Qst) : EqV Tryd.prog w (d + 2) 65 (.agg a.enc.toArray) (.agg b.enc.toArray) (decide (a = b)) := by
  have hd : decide (a = b) = ((decide (a.name = b.name)) && ((a.typ == b.typ) && ((a.cls == b.cls) && true))) := by
    obtain ⟨n, t, c⟩ := a
    obtain ⟨n', t', c'⟩ := b
    rw [Bool.eq_iff_iff]; simp
  rw [hd]
  refine EqV.struct Tryd.underlying65 (by kernel_rfl) ?_
  refine EqF.cons (a := .string a.name) (b := .string b.name) (by decide) (run_part_one Tryd.underlying9 rfl rfl) (run_part_one Tryd.underlying9 rfl rfl) (str_eqv Tryd.underlying9 _ _) ?_
  refine EqF.cons (by decide) (run_part_one Tryd.underlying3 rfl rfl) (run_part_one Tryd.underlying3 rfl rfl) (EqV.int Tryd.underlying3) ?_
  refine EqF.cons (by decide) (run_part_one Tryd.underlying3 rfl rfl) (run_part_one Tryd.underlying3 rfl rfl) (EqV.int Tryd.underlying3) ?_
  exact EqF.nil
theorem Qry.part0 (q : Qry) : (q.enc.drop 0).take q.client.enc.length = q.client.enc := by
  rw [List.drop_zero, Qry.enc, List.take_left']; rfl
theorem Qry.part17 (q : Qry) : (q.enc.drop 17).take q.server.enc.length = q.server.enc := by
  rw [Qry.enc, List.drop_left' (Adr.enc_length _), List.take_left']; rfl
theorem Qry.drop34 (q : Qry) : q.enc.drop 34 = [.int .i64 q.port, .int .i64 q.id, .bool q.tcp] ++ q.qst.enc := by
  rw [show (34 : Nat) = 17 + 17 from rfl, ← List.drop_drop, Qry.enc, List.drop_left' (Adr.enc_length _), List.drop_left' (Adr.enc_length _)]
theorem Qry.part37 (q : Qry) : (q.enc.drop 37).take q.qst.enc.length = q.qst.enc := by
  rw [show (37 : Nat) = 34 + 3 from rfl, ← List.drop_drop, Qry.drop34]; rfl
theorem Qry.at34 (q : Qry) (j : Nat) : q.enc[34 + j]? = ([.int .i64 q.port, .int .i64 q.id, .bool q.tcp] ++ q.qst.enc)[j]? := by
  rw [← Qry.drop34, List.getElem?_drop]
theorem Qry.at17 (q : Qry) (j : Nat) (hj : j < 17) : q.enc[17 + j]? = q.server.enc[j]? := by
  have h := q.part17
  rw [← h, List.getElem?_take, if_pos (by rw [Adr.enc_length]; exact hj), List.getElem?_drop]
theorem Qry.at0 (q : Qry) (j : Nat) (hj : j < 17) : q.enc[j]? = q.client.enc[j]? := by
  have h := q.part0
  rw [← h, List.getElem?_take, if_pos (by rw [Adr.enc_length]; exact hj), List.drop_zero]
theorem qry_eq {w : World} (d : Nat) (a b : Qry) : EqV Tryd.prog w (d + 4) 67 (.agg a.enc.toArray) (.agg b.enc.toArray) (decide (a = b)) := by
  have hd : decide (a = b) = (decide (a.client = b.client) && (decide (a.server = b.server) && ((a.port == b.port) && ((a.id == b.id) && ((a.tcp == b.tcp) && (decide (a.qst = b.qst) && true)))))) := by
    obtain ⟨a1, a2, a3, a4, a5, a6⟩ := a
    obtain ⟨b1, b2, b3, b4, b5, b6⟩ := b
    rw [Bool.eq_iff_iff]; simp
  rw [hd]
  refine EqV.struct Tryd.underlying67 (by kernel_rfl) ?_
  refine EqF.cons (by decide) (run_part_row Tryd.underlying63 rfl (by rw [Adr.enc_length]; kernel_rfl) a.part0) (run_part_row Tryd.underlying63 rfl (by rw [Adr.enc_length]; kernel_rfl) b.part0) (adr_eq d _ _) ?_
  refine EqF.cons (by decide) (run_part_row Tryd.underlying63 rfl (by rw [Adr.enc_length]; kernel_rfl) a.part17) (run_part_row Tryd.underlying63 rfl (by rw [Adr.enc_length]; kernel_rfl) b.part17) (adr_eq d _ _) ?_
  refine EqF.cons (by decide) (run_part_one Tryd.underlying3 rfl (a.at34 0)) (run_part_one Tryd.underlying3 rfl (b.at34 0)) (EqV.int Tryd.underlying3) ?_
  refine EqF.cons (by decide) (run_part_one Tryd.underlying3 rfl (a.at34 1)) (run_part_one Tryd.underlying3 rfl (b.at34 1)) (EqV.int Tryd.underlying3) ?_
  refine EqF.cons (by decide) (run_part_one Tryd.underlying4 rfl (a.at34 2)) (run_part_one Tryd.underlying4 rfl (b.at34 2)) (EqV.bool Tryd.underlying4) ?_
  refine EqF.cons (by decide) (run_part_row Tryd.underlying65 rfl (by rw [Qst.enc_length]; kernel_rfl) a.part37) (run_part_row Tryd.underlying65 rfl (by rw [Qst.enc_length]; kernel_rfl) b.part37) (qst_eq (d + 1) _ _) ?_
  exact EqF.nil
end Go.Proofs.YtepaanpdjadakaaDoor
