import Derived.Test.YtepaanpdjadakaaDoorDig
import Derived.Test.YtepaanpdjadakaaDoorFrefN
/-! awake of layer 25. -/
namespace Go.Proofs.YtepaanpdjadakaaDoor
open Go Go.RowKit

section
variable {B : Nat} {w0 w w' : World} {F : HP}
theorem rows_of_arr {e : TypeId} {α : Type} {enc : α → List Value} {sz : Nat} {l : List α} {v : Value} (hl : l.length ≤ maxLen) (h : Sat B w0 w (arr e sz v l.length (l.flatMap enc) • F)) : RowsAt enc w v l := ⟨h.arr_reads, hl⟩
set_option maxRecDepth 8000 in
set_option maxHeartbeats 8000000 in
theorem awake25_any (w : World) (hE : Et w) : Calls Tryd.prog 57 #[] w fun e w' => e = .returned (.bool true) ∧ Below w.heap.size w w' := by
  have e0 : errV 0 = .nilIface := rfl
  have c1 := fNew_any 3 (Sat.start w)
  rw [show roomOf 3 = 3 by decide] at c1
  have hfc : namesL (fcts [⟨⟨⟨#[97]⟩, adr4 1 2 3 4⟩, 0, 9⟩]) (adr4 1 2 3 4) = [⟨#[97]⟩] := by simp [namesL, fcts]
  have hn1 : KNF [⟨⟨⟨#[97]⟩, adr4 1 2 3 4⟩, 0, 9⟩] := by simp [KNF]
  go_enter Tryd.func57, Tryd.ntmps57
  go_wp2_with fail
  refine c1.mono ?_
  rintro e w1 ⟨t, rfl, hS1⟩
  clear c1
  go_wp2_with fail
  refine (v4_any 1 2 3 4 _).mono ?_
  rintro e w2 ⟨rfl, hb2⟩
  have hS2 := hS1.below_ hb2
  have c2 := fLearn_any hS2 hE.pos hE KNF.nil (by omega) ⟨#[97]⟩ (adr4 1 2 3 4) 9
  rw [show lrnC 3 [] ⟨⟨#[97]⟩, adr4 1 2 3 4⟩ = 0 from rfl, show lrnR 3 [] 0 ⟨⟨#[97]⟩, adr4 1 2 3 4⟩ 9 = [⟨⟨⟨#[97]⟩, adr4 1 2 3 4⟩, 0, 9⟩] from rfl, show lrnN 3 [] 0 ⟨⟨#[97]⟩, adr4 1 2 3 4⟩ = 1 from rfl, e0] at c2
  clear hS1 hb2
  generalize hA : (adr4 1 2 3 4).enc.toArray = AE at *
  go_wp2_with fail
  refine c2.mono ?_
  rintro e w3 ⟨rfl, hS3⟩
  clear c2 hS2
  go_wp2_with fail
  refine (v4_any 1 2 3 4 _).mono ?_
  rintro e w4 ⟨rfl, hb4⟩
  have hS4 := hS3.below_ hb4
  have c3 := fNames_any hS4 (adr4 1 2 3 4)
  rw [hfc] at c3
  clear hS3 hb4
  rw [hA] at c3 ⊢
  go_wp2_with fail
  refine c3.mono ?_
  rintro e w5 ⟨v5, rfl, hS5⟩
  obtain ⟨A5, c5, rfl⟩ := hS5.arr_form
  have hS6 := hS5.alloc (.cells #[.string ⟨#[97]⟩] 9)
  have hr1 : RowsAt strC (w5.alloc (.cells #[.string ⟨#[97]⟩] 9)) (.slice A5 1 c5) [⟨#[97]⟩] := rows_of_arr (by decide) hS6.pull2
  have hr2 : RowsAt strC (w5.alloc (.cells #[.string ⟨#[97]⟩] 9)) (.slice (some ⟨w5.heap.size, 0, none⟩) 1 1) [⟨#[97]⟩] := ⟨reads_new, by decide⟩
  have c4 := plainS_any _ _ _ _ _ hr1 hr2
  rw [sameOf_refl eqD_refl] at c4
  clear c3 hS4 hS5
  go_wp2_with fail
  refine c4.mono ?_
  rintro e w6 ⟨rfl, hb6⟩
  have hS7 := (hS6.below_ hb6).pull3
  have c6 := fLen_any hS7
  rw [show (([⟨⟨⟨#[97]⟩, adr4 1 2 3 4⟩, 0, 9⟩] : List (Itm Fk)).length : Int) = 1 from rfl] at c6
  clear c4 hS6 hb6 hr1 hr2
  go_wp2_with fail
  refine c6.mono ?_
  rintro e wx ⟨rfl, rfl⟩
  go_wp2_with fail
  go_ret
  exact ⟨rfl, hS7.below⟩
end
end Go.Proofs.YtepaanpdjadakaaDoor
