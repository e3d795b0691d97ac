import Derived.Test.YtepaanpdjadakaaDoorFrefL
import Derived.Test.YtepaanpdjadakaaDoorFacA
import Derived.Test.YtepaanpdjadakaaDoorFac2
import Derived.Test.YtepaanpdjadakaaDoorOpenQ
/-! FactsPlay: what is compared behind each operation. -/
namespace Go.Proofs.YtepaanpdjadakaaDoor
open Go Go.RowKit

structure FOp where
  kind : Int
  name : ByteArray
  adr : Adr
  at_ : Int
instance : Inhabited FOp := ⟨⟨0, ⟨#[]⟩, ⟨false, List.replicate 16 0, rfl⟩, 0⟩⟩
def FOp.enc (o : FOp) : List Value := .int .i64 o.kind :: .string o.name :: (o.adr.enc ++ [.int .u64 o.at_])
abbrev FOp.enc_sz : Nat := 20
theorem FOp.enc_length (o : FOp) : o.enc.length = 20 := by simp [FOp.enc, Adr.enc_length]
theorem FOp.enc_one (o : FOp) : ∀ u ∈ o.enc, u.oneCell' = true := by
  intro u hu
  simp only [FOp.enc, List.mem_cons, List.mem_append, List.not_mem_nil, or_false] at hu
  rcases hu with rfl | rfl | h | rfl
  · rfl
  · rfl
  · exact o.adr.enc_one u h
  · rfl
theorem FOp.at0 (o : FOp) : o.enc[0]? = some (.int .i64 o.kind) := rfl
theorem FOp.at1 (o : FOp) : o.enc[1]? = some (.string o.name) := rfl
theorem FOp.at2 (o : FOp) (j : Nat) (u : Value) (h : o.adr.enc[j]? = some u) : o.enc[2 + j]? = some u := by
  have hj := (List.getElem?_eq_some_iff.1 h).1
  unfold FOp.enc
  rw [show 2 + j = j + 1 + 1 by omega, List.getElem?_cons_succ, List.getElem?_cons_succ, List.getElem?_append_left hj, h]
theorem FOp.at19 (o : FOp) : o.enc[19]? = some (.int .u64 o.at_) := by
  unfold FOp.enc
  rw [List.getElem?_cons_succ, List.getElem?_cons_succ, List.getElem?_append_right (by rw [Adr.enc_length]; omega), Adr.enc_length]
  rfl
section
variable {H : Type} {enc : TypeId × Value → H} {w : World} {base : Nat} {spare : Nat → Bool} {held : Bool} {fuel : Nat} {cs : List Value} {x : DataW H × List MemPlace}
theorem under_fop : ∃ fs : Array Field, Tryd.prog.underlying 109 = some (.struct fs) ∧ (fs[0]?.map fun f => (f.type, f.offset)) = some (3, 0) ∧ (fs[1]?.map fun f => (f.type, f.offset)) = some (9, 1) ∧ (fs[2]?.map fun f => (f.type, f.offset)) = some (63, 2) ∧ (fs[3]?.map fun f => (f.type, f.offset)) = some (23, 19) :=
  ⟨_, Tryd.underlying109, rfl, rfl, rfl, rfl⟩
theorem open1_fop (h : DataW.trod enc Tryd.prog w base spare held fuel 109 cs = some x) : ∃ o : FOp, cs = o.enc := by
  obtain ⟨fs, hu, h0, h1, h2, h3⟩ := under_fop
  obtain ⟨xs, n, rfl, rfl, hlen, hxl, hx⟩ := DataW.trod_struct hu h
  rw [show Tryd.prog.cellsOf 109 = 20 by kernel_rfl] at hlen
  obtain ⟨y0, e0⟩ := open_fld hx hxl h0
  obtain ⟨y1, e1⟩ := open_fld hx hxl h1
  obtain ⟨y2, e2⟩ := open_fld hx hxl h2
  obtain ⟨y3, e3⟩ := open_fld hx hxl h3
  rw [show Tryd.prog.cellsOf 3 = 1 by kernel_rfl] at e0
  rw [show Tryd.prog.cellsOf 9 = 1 by kernel_rfl] at e1
  rw [show Tryd.prog.cellsOf 63 = 17 by kernel_rfl] at e2
  rw [show Tryd.prog.cellsOf 23 = 1 by kernel_rfl] at e3
  obtain ⟨a, ha, _, _⟩ := DataW.trod_int Tryd.underlying3 e0
  obtain ⟨s, hs, _, _⟩ := DataW.trod_string Tryd.underlying9 e1
  obtain ⟨q, hq⟩ := open1_adr e2
  obtain ⟨c, hc, _, _⟩ := DataW.trod_int Tryd.underlying23 e3
  refine ⟨⟨a, s, q, c⟩, ?_⟩
  have c0 := cut_at' cs 0 1
  have c1 := cut_at' cs 1 1
  have c2 := cut_at' cs 2 17
  have c3 := cut_at' cs 19 1
  simp only [Nat.zero_add, Nat.reduceAdd] at c0 c1 c2 c3
  rw [ha, List.drop_zero] at c0
  rw [hs] at c1
  rw [hq] at c2
  rw [hc, List.drop_of_length_le (by omega : cs.length ≤ 20)] at c3
  rw [c0, c1, c2, c3]
  simp [FOp.enc]
end
section
variable {B : Nat} {w0 w w' : World} {F : HP} {b t room bo : Nat} {n next : Int} {R : List (Itm Fk)} {OE : Array Value}
theorem rExpire_R (h : Sat B w0 w (fref b n (fcts R) • F)) (hl : R.length ≤ 1000) (now : Int) : Calls Tryd.prog 64 #[.pointer (some ⟨b, 0, none⟩), .int .u64 now] w fun e w' => e = .returned (.int .i64 ((R.length : Int) - (R.filter fun x => !lateF now x).length)) ∧ Sat B w0 w' (fref b n (fcts (R.filter fun x => !lateF now x)) • F) := by
  refine (rExpire_any h (by rw [fcts_length]; exact hl) now).mono ?_
  rintro e w' ⟨rfl, h2⟩
  rw [← fcts_late] at h2 ⊢
  rw [fcts_length, fcts_length]
  exact ⟨rfl, h2⟩
theorem rDrop_R (h : Sat B w0 w (fref b n (fcts R) • F)) (hl : R.length ≤ 1000) (name : ByteArray) : Calls Tryd.prog 66 #[.pointer (some ⟨b, 0, none⟩), .string name] w fun e w' => e = .returned (.int .i64 ((R.length : Int) - (R.filter fun x => !isN name x).length)) ∧ Sat B w0 w' (fref b n (fcts (R.filter fun x => !isN name x)) • F) := by
  refine (rDrop_any h (by rw [fcts_length]; exact hl) name).mono ?_
  rintro e w' ⟨rfl, h2⟩
  rw [← fcts_named] at h2 ⊢
  rw [fcts_length, fcts_length]
  exact ⟨rfl, h2⟩
theorem rLearn_R (h : Sat B w0 w (fref b n (fcts R) • F)) (hl : R.length ≤ 1000) (hn : KNF R) (next : Int) (name : ByteArray) (a : Adr) (u : Int) : Calls Tryd.prog 67 #[.pointer (some ⟨b, 0, none⟩), .string name, .agg a.enc.toArray, .int .u64 u] w fun e w' =>
    e = .returned (failV (lrnC (roomOf n) R ⟨name, a⟩)) ∧ Sat B w0 w' (fref b n (fcts (lrnR (roomOf n) R next ⟨name, a⟩ u)) • F) := by
  have := rLearn_any h (by rw [fcts_length]; exact hl) (by rw [fcts_keys]; exact hn) name a u
  rw [lrnLC_fcts, lrnL_fcts _ _ next] at this
  exact this
/-- The comparison behind each operation. -/
theorem tail15 (h : Sat B w0 w (blk bo (.cells OE 109) • ftab t room R next • fref b n (fcts R) • emp)) (hl : R.length ≤ 1000) (a : Adr) : ∃ (A : Option Addr) (c : Nat) (Z : HP) (Zv Zn : Option Addr → Nat → HP) (Zm : Option Addr → Nat → Option Addr → Nat → HP),
    Sat B w0 w Z ∧
    (∀ W, Sat B w0 W Z → W.heap[bo]? = some (.cells OE 109) ∧ W.cell? ⟨b, 1, none⟩ = some (.slice A (fcts R).length c)) ∧
    (∀ W, Sat B w0 W Z → Calls Tryd.prog 61 #[.pointer (some ⟨t, 0, none⟩)] W fun e w' => ∃ A' c', e = .returned (.slice A' (fcts R).length c') ∧ Sat B w0 w' (Zv A' c')) ∧
    (∀ W A' c', Sat B w0 W (Zv A' c') → W.heap[bo]? = some (.cells OE 109) ∧ W.cell? ⟨b, 1, none⟩ = some (.slice A (fcts R).length c)) ∧
    (∀ W A' c', Sat B w0 W (Zv A' c') → Calls Tryd.prog 60 #[.slice A' (fcts R).length c', .slice A (fcts R).length c] W fun e w' => e = .returned (.bool true) ∧ Sat B w0 w' Z) ∧
    (∀ W, Sat B w0 W Z → Calls Tryd.prog 59 #[.pointer (some ⟨t, 0, none⟩)] W fun e w' => e = .returned (.int .i64 (fcts R).length) ∧ Sat B w0 w' Z) ∧
    (∀ W, Sat B w0 W Z → Calls Tryd.prog 63 #[.pointer (some ⟨t, 0, none⟩), .agg a.enc.toArray] W fun e w' => ∃ A' c', e = .returned (.slice A' (namesL (fcts R) a).length c') ∧ Sat B w0 w' (Zn A' c')) ∧
    (∀ W A' c', Sat B w0 W (Zn A' c') → W.heap[bo]? = some (.cells OE 109) ∧ W.cell? ⟨b, 1, none⟩ = some (.slice A (fcts R).length c)) ∧
    (∀ W A' c', Sat B w0 W (Zn A' c') → Calls Tryd.prog 69 #[.pointer (some ⟨b, 0, none⟩), .agg a.enc.toArray] W fun e w' => ∃ A'' c'', e = .returned (.slice A'' (namesL (fcts R) a).length c'') ∧ Sat B w0 w' (Zm A' c' A'' c'')) ∧
    (∀ W A' c' A'' c'', Sat B w0 W (Zm A' c' A'' c'') → Calls Tryd.prog 68 #[.slice A' (namesL (fcts R) a).length c', .slice A'' (namesL (fcts R) a).length c''] W fun e w' => e = .returned (.bool true) ∧ Sat B w0 w' (ftab t room R next • fref b n (fcts R) • emp)) := by
  obtain ⟨A, c, hS⟩ := h.pull3.fref_open
  have hfl := fcts_length R
  have hnl := namesL_le (fcts R) a
  refine ⟨A, c, blk b (.cells #[.int .i64 n, .slice A (fcts R).length c] 107) • arr 99 19 (.slice A (fcts R).length c) (fcts R).length ((fcts R).flatMap Fct.enc) • blk bo (.cells OE 109) • ftab t room R next • emp,
    fun A2 c2 => arr 99 19 (.slice A2 (fcts R).length c2) (fcts R).length ((fcts R).flatMap Fct.enc) • blk b (.cells #[.int .i64 n, .slice A (fcts R).length c] 107) • arr 99 19 (.slice A (fcts R).length c) (fcts R).length ((fcts R).flatMap Fct.enc) • blk bo (.cells OE 109) • ftab t room R next • emp,
    fun A2 c2 => arr 9 1 (.slice A2 (namesL (fcts R) a).length c2) (namesL (fcts R) a).length ((namesL (fcts R) a).flatMap strC) • blk b (.cells #[.int .i64 n, .slice A (fcts R).length c] 107) • arr 99 19 (.slice A (fcts R).length c) (fcts R).length ((fcts R).flatMap Fct.enc) • blk bo (.cells OE 109) • ftab t room R next • emp,
    fun A2 c2 A3 c3 => arr 9 1 (.slice A2 (namesL (fcts R) a).length c2) (namesL (fcts R) a).length ((namesL (fcts R) a).flatMap strC) • arr 9 1 (.slice A3 (namesL (fcts R) a).length c3) (namesL (fcts R) a).length ((namesL (fcts R) a).flatMap strC) • fref b n (fcts R) • blk bo (.cells OE 109) • ftab t room R next • emp, ?_, ?_, ?_, ?_, ?_, ?_, ?_, ?_, ?_, ?_⟩
  · exact hS.to (by ac_rfl)
  · intro W hW
    exact ⟨hW.pull3.heap, cell_heap hW.heap rfl⟩
  · intro W hW
    refine (fAll_any (hW.to (by ac_rfl : _ = ftab t room R next • (blk b (.cells #[.int .i64 n, .slice A (fcts R).length c] 107) • arr 99 19 (.slice A (fcts R).length c) (fcts R).length ((fcts R).flatMap Fct.enc) • blk bo (.cells OE 109) • emp)))).mono ?_
    rintro e w' ⟨v, rfl, h2⟩
    rw [← hfl] at h2
    obtain ⟨A2, c2, rfl⟩ := h2.arr_form
    exact ⟨A2, c2, rfl, h2.to (by ac_rfl)⟩
  · intro W A2 c2 hW
    exact ⟨hW.pull4.heap, cell_heap hW.pull2.heap rfl⟩
  · intro W A2 c2 hW
    have hr1 : RowsAt Fct.enc W (.slice A2 (fcts R).length c2) (fcts R) := rows_of_arr (by rw [hfl]; unfold maxLen; omega) hW
    have hr2 : RowsAt Fct.enc W (.slice A (fcts R).length c) (fcts R) := rows_of_arr (by rw [hfl]; unfold maxLen; omega) hW.pull3
    refine (plainF_any _ _ _ _ _ hr1 hr2).mono ?_
    rintro e w' ⟨rfl, hb⟩
    rw [sameOf_refl eqD_refl]
    exact ⟨rfl, (hW.below_ hb).drop⟩
  · intro W hW
    refine (fLen_any (hW.to (by ac_rfl : _ = ftab t room R next • (blk b (.cells #[.int .i64 n, .slice A (fcts R).length c] 107) • arr 99 19 (.slice A (fcts R).length c) (fcts R).length ((fcts R).flatMap Fct.enc) • blk bo (.cells OE 109) • emp)))).mono ?_
    rintro e w' ⟨rfl, rfl⟩
    rw [hfl]
    exact ⟨rfl, by rw [← hfl]; exact hW⟩
  · intro W hW
    refine (fNames_any (hW.to (by ac_rfl : _ = ftab t room R next • (blk b (.cells #[.int .i64 n, .slice A (fcts R).length c] 107) • arr 99 19 (.slice A (fcts R).length c) (fcts R).length ((fcts R).flatMap Fct.enc) • blk bo (.cells OE 109) • emp))) a).mono ?_
    rintro e w' ⟨v, rfl, h2⟩
    obtain ⟨A2, c2, rfl⟩ := h2.arr_form
    exact ⟨A2, c2, rfl, h2.to (by ac_rfl)⟩
  · intro W A2 c2 hW
    exact ⟨hW.pull4.heap, cell_heap hW.pull2.heap rfl⟩
  · intro W A2 c2 hW
    refine (rNames_any (Sat.fref_shut (hW.to (by ac_rfl : _ = blk b (.cells #[.int .i64 n, .slice A (fcts R).length c] 107) • arr 99 19 (.slice A (fcts R).length c) (fcts R).length ((fcts R).flatMap Fct.enc) • (arr 9 1 (.slice A2 (namesL (fcts R) a).length c2) (namesL (fcts R) a).length ((namesL (fcts R) a).flatMap strC) • blk bo (.cells OE 109) • ftab t room R next • emp)))) (by rw [hfl]; exact hl) a).mono ?_
    rintro e w' ⟨v, rfl, h2⟩
    obtain ⟨A3, c3, rfl⟩ := h2.arr_form
    exact ⟨A3, c3, rfl, h2.to (by ac_rfl)⟩
  · intro W A2 c2 A3 c3 hW
    have hr1 : RowsAt strC W (.slice A2 (namesL (fcts R) a).length c2) (namesL (fcts R) a) := rows_of_arr (by unfold maxLen; omega) hW
    have hr2 : RowsAt strC W (.slice A3 (namesL (fcts R) a).length c3) (namesL (fcts R) a) := rows_of_arr (by unfold maxLen; omega) hW.pull2
    refine (plainS_any _ _ _ _ _ hr1 hr2).mono ?_
    rintro e w' ⟨rfl, hb⟩
    rw [sameOf_refl eqD_refl]
    exact ⟨rfl, ((hW.below_ hb).drop.drop.to (by ac_rfl : _ = blk bo (.cells OE 109) • ftab t room R next • fref b n (fcts R) • emp)).drop⟩
end
end Go.Proofs.YtepaanpdjadakaaDoor
