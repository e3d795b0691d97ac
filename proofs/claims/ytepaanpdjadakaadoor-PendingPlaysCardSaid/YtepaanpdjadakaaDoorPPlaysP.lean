import Derived.Test.YtepaanpdjadakaaDoorQrefA
import Derived.Test.YtepaanpdjadakaaDoorQrefT
import Derived.Test.YtepaanpdjadakaaDoorQrefK
import Derived.Test.YtepaanpdjadakaaDoorKept
import Derived.Test.YtepaanpdjadakaaDoorSameQ
import Derived.Test.YtepaanpdjadakaaDoorOpenQ
/-! PendingPlays: what is compared behind each operation. -/
namespace Go.Proofs.YtepaanpdjadakaaDoor
open Go Go.RowKit

structure QOp where
  kind : Int
  q : Qry
  at_ : Int
  sa : Option Addr
  sc : Nat
  ss : List Adr
instance : Inhabited QOp := ⟨⟨0, default, 0, none, 0, []⟩⟩
def QOp.enc (o : QOp) : List Value := .int .i64 o.kind :: (o.q.enc ++ [.int .u64 o.at_, .slice o.sa o.ss.length o.sc])
abbrev QOp.enc_sz : Nat := 43
theorem QOp.enc_length (o : QOp) : o.enc.length = 43 := by simp [QOp.enc, Qry.enc_length]
theorem QOp.enc_one (o : QOp) : ∀ u ∈ o.enc, u.oneCell' = true := by
  intro u hu
  simp only [QOp.enc, List.mem_cons, List.mem_append, List.not_mem_nil, or_false] at hu
  rcases hu with rfl | h | rfl | rfl
  · rfl
  · exact o.q.enc_one u h
  · rfl
  · rfl
theorem QOp.at0 (o : QOp) : o.enc[0]? = some (.int .i64 o.kind) := rfl
theorem QOp.at1 (o : QOp) (j : Nat) (u : Value) (h : o.q.enc[j]? = some u) : o.enc[1 + j]? = some u := by
  have hj := (List.getElem?_eq_some_iff.1 h).1
  unfold QOp.enc
  rw [Nat.add_comm, List.getElem?_cons_succ, List.getElem?_append_left hj, h]
theorem QOp.at41 (o : QOp) : o.enc[41]? = some (.int .u64 o.at_) := by
  unfold QOp.enc
  rw [List.getElem?_cons_succ, List.getElem?_append_right (by rw [Qry.enc_length]; omega), Qry.enc_length]
  rfl
theorem QOp.at42 (o : QOp) : o.enc[42]? = some (.slice o.sa o.ss.length o.sc) := by
  unfold QOp.enc
  rw [List.getElem?_cons_succ, List.getElem?_append_right (by rw [Qry.enc_length]; omega), Qry.enc_length]
  rfl
theorem addR_le (room : Nat) (R : List (Itm Qry)) (next : Int) (q : Qry) (u : Int) : (addR room R next q u).length ≤ R.length + 1 := by
  unfold addR
  split
  · simp [setKey]
  · split
    · omega
    · simp
theorem addN_le (room : Nat) (R : List (Itm Qry)) (next : Int) (q : Qry) : next ≤ addN room R next q ∧ addN room R next q ≤ next + 1 := by
  unfold addN
  split
  · omega
  · split <;> omega
section
variable {B : Nat} {w0 w w' : World} {F : HP} {b t room bo : Nat} {n next : Int} {R : List (Itm Qry)} {OE : Array Value}
/-- The comparison behind each operation. -/
theorem tail20 (h : Sat B w0 w (blk bo (.cells OE 88) • ptab t room R next • qref b n R • emp)) (hl : R.length ≤ 1000) (q : Qry) : ∃ (A : Option Addr) (c : Nat) (Z : HP) (Zv : Option Addr → Nat → HP),
    Sat B w0 w Z ∧
    (∀ W, Sat B w0 W Z → W.heap[bo]? = some (.cells OE 88) ∧ W.cell? ⟨b, 1, none⟩ = some (.slice A R.length c)) ∧
    (∀ W, Sat B w0 W Z → Calls Tryd.prog 48 #[.pointer (some ⟨t, 0, none⟩)] W fun e w' => ∃ A' c', e = .returned (.slice A' R.length c') ∧ Sat B w0 w' (Zv A' c')) ∧
    (∀ W A' c', Sat B w0 W (Zv A' c') → W.heap[bo]? = some (.cells OE 88) ∧ W.cell? ⟨b, 1, none⟩ = some (.slice A R.length c)) ∧
    (∀ W A' c', Sat B w0 W (Zv A' c') → Calls Tryd.prog 47 #[.slice A' R.length c', .slice A R.length c] W fun e w' => e = .returned (.bool true) ∧ Sat B w0 w' Z) ∧
    (∀ W, Sat B w0 W Z → Calls Tryd.prog 43 #[.pointer (some ⟨t, 0, none⟩)] W fun e w' => e = .returned (.int .i64 R.length) ∧ Sat B w0 w' Z) ∧
    (∀ W, Sat B w0 W Z → Calls Tryd.prog 41 #[.pointer (some ⟨t, 0, none⟩), .agg q.enc.toArray] W fun e w' => e = .returned (.bool (R.any (isQ q))) ∧ Sat B w0 w' Z) ∧
    (∀ W, Sat B w0 W Z → Calls Tryd.prog 55 #[.pointer (some ⟨b, 0, none⟩), .agg q.enc.toArray] W fun e w' => e = .returned (.bool (R.any (isQ q))) ∧ Sat B w0 w' (ptab t room R next • qref b n R • emp)) := by
  obtain ⟨A, c, A', c', hS⟩ := h.pull3.qref_open
  refine ⟨A, c, blk b (.cells #[.int .i64 n, .slice A R.length c, .slice A' R.length c'] 86) • arr 67 40 (.slice A R.length c) R.length (R.flatMap keyC) • arr 23 1 (.slice A' R.length c') R.length (R.flatMap dueC) • blk bo (.cells OE 88) • ptab t room R next • emp,
    fun A2 c2 => arr 67 40 (.slice A2 R.length c2) R.length ((R.map (·.key)).flatMap Qry.enc) • ptab t room R next • blk b (.cells #[.int .i64 n, .slice A R.length c, .slice A' R.length c'] 86) • arr 67 40 (.slice A R.length c) R.length (R.flatMap keyC) • arr 23 1 (.slice A' R.length c') R.length (R.flatMap dueC) • blk bo (.cells OE 88) • emp, ?_, ?_, ?_, ?_, ?_, ?_, ?_, ?_⟩
  · exact hS.to (by ac_rfl)
  · intro W hW
    exact ⟨hW.pull4.heap, cell_heap hW.heap rfl⟩
  · intro W hW
    refine (pAll_any (hW.to (by ac_rfl : _ = ptab t room R next • (blk b (.cells #[.int .i64 n, .slice A R.length c, .slice A' R.length c'] 86) • arr 67 40 (.slice A R.length c) R.length (R.flatMap keyC) • arr 23 1 (.slice A' R.length c') R.length (R.flatMap dueC) • blk bo (.cells OE 88) • emp)))).mono ?_
    rintro e w' ⟨v, rfl, h2⟩
    obtain ⟨A2, c2, rfl⟩ := h2.arr_form
    exact ⟨A2, c2, rfl, h2⟩
  · intro W A2 c2 hW
    exact ⟨(hW.to (by ac_rfl : _ = blk bo (.cells OE 88) • (arr 67 40 (.slice A2 R.length c2) R.length ((R.map (·.key)).flatMap Qry.enc) • ptab t room R next • blk b (.cells #[.int .i64 n, .slice A R.length c, .slice A' R.length c'] 86) • arr 67 40 (.slice A R.length c) R.length (R.flatMap keyC) • arr 23 1 (.slice A' R.length c') R.length (R.flatMap dueC) • emp))).heap, cell_heap hW.pull3.heap rfl⟩
  · intro W A2 c2 hW
    have hr1 : RowsAt Qry.enc W (.slice A2 R.length c2) (R.map (·.key)) := ⟨by rw [List.length_map]; exact hW.arr_reads, by rw [List.length_map]; unfold maxLen; omega⟩
    have hr2 : RowsAt Qry.enc W (.slice A R.length c) (R.map (·.key)) := ⟨by rw [List.length_map, flat_key]; exact hW.pull4.arr_reads, by rw [List.length_map]; unfold maxLen; omega⟩
    refine (plainQ_any _ _ _ _ _ hr1 hr2).mono ?_
    rintro e w' ⟨rfl, hb⟩
    rw [sameOf_refl eqD_refl]
    exact ⟨rfl, ((hW.below_ hb).drop).to (by ac_rfl)⟩
  · intro W hW
    refine (pLen_any (hW.to (by ac_rfl : _ = ptab t room R next • (blk b (.cells #[.int .i64 n, .slice A R.length c, .slice A' R.length c'] 86) • arr 67 40 (.slice A R.length c) R.length (R.flatMap keyC) • arr 23 1 (.slice A' R.length c') R.length (R.flatMap dueC) • blk bo (.cells OE 88) • emp)))).mono ?_
    rintro e w' ⟨rfl, rfl⟩
    exact ⟨rfl, hW⟩
  · intro W hW
    refine (pHas_any (hW.to (by ac_rfl : _ = ptab t room R next • (blk b (.cells #[.int .i64 n, .slice A R.length c, .slice A' R.length c'] 86) • arr 67 40 (.slice A R.length c) R.length (R.flatMap keyC) • arr 23 1 (.slice A' R.length c') R.length (R.flatMap dueC) • blk bo (.cells OE 88) • emp))) q).mono ?_
    rintro e w' ⟨rfl, h2⟩
    exact ⟨rfl, h2.to (by ac_rfl)⟩
  · intro W hW
    refine (qHas_any (Sat.qref_shut hW) hl q).mono ?_
    rintro e w' ⟨rfl, h2⟩
    exact ⟨rfl, h2.pull2.drop.pull2⟩
end
end Go.Proofs.YtepaanpdjadakaaDoor
