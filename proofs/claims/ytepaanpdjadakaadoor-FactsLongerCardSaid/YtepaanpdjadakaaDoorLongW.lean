import Derived.Test.YtepaanpdjadakaaDoorFacA
import Derived.Test.YtepaanpdjadakaaDoorInts
import Derived.Test.YtepaanpdjadakaaDoorFac2
import Derived.Test.YtepaanpdjadakaaDoorAft
import Derived.Test.YtepaanpdjadakaaDoorFullW
/-! FactsLonger's walk. -/
namespace Go.Proofs.YtepaanpdjadakaaDoor
open Go Go.RowKit

/-- The greatest of the first k. -/
def mst (z : List Int) : Nat → Int
  | 0 => 0
  | k + 1 => max (mst z k) (z.getD k 0)
def keyA : Fk := ⟨⟨#[97]⟩, zAdr⟩
def longR (z : List Int) (k : Nat) : List (Itm Fk) := if k = 0 then [] else [⟨keyA, 0, mst z k⟩]
def longN (k : Nat) : Int := if k = 0 then 0 else 1
theorem mst_nn (z : List Int) (k : Nat) : 0 ≤ mst z k := by
  induction k with
  | zero => exact Int.le_refl 0
  | succ k ih => exact Int.le_trans ih (Int.le_max_left _ _)
theorem long_step (z : List Int) (k : Nat) (h : 0 ≤ z.getD k 0) : lrnC 2 (longR z k) keyA = 0 ∧ lrnR 2 (longR z k) (longN k) keyA (z.getD k 0) = longR z (k + 1) ∧ lrnN 2 (longR z k) (longN k) keyA = 1 := by
  by_cases e : k = 0
  · subst e
    have hm : max 0 (z.getD 0 0) = z.getD 0 0 := Int.max_eq_right h
    refine ⟨rfl, ?_, rfl⟩
    show [(⟨keyA, 0, z.getD 0 0⟩ : Itm Fk)] = [⟨keyA, 0, max 0 (z.getD 0 0)⟩]
    rw [hm]
  · have h1 : longR z k = [⟨keyA, 0, mst z k⟩] := if_neg e
    have h2 : longR z (k + 1) = [⟨keyA, 0, mst z (k + 1)⟩] := if_neg (by omega)
    have h3 : longN k = 1 := if_neg e
    have ha : ([⟨keyA, 0, mst z k⟩] : List (Itm Fk)).any (isK keyA) = true := by simp [isK]
    rw [h1, h2, h3]
    unfold lrnC lrnR lrnN
    rw [ha]
    refine ⟨rfl, ?_, rfl⟩
    simp only [if_true, upK, List.map_cons, List.map_nil]
    rw [Int.max_comm]
    rfl
theorem zAdr_lit : zAdr.enc.toArray = #[.bool false, .int .u8 0, .int .u8 0, .int .u8 0, .int .u8 0, .int .u8 0, .int .u8 0, .int .u8 0, .int .u8 0, .int .u8 0, .int .u8 0, .int .u8 0, .int .u8 0, .int .u8 0, .int .u8 0, .int .u8 0, .int .u8 0] := rfl
theorem fctA_lit (m : Int) : (Fct.enc ⟨keyA, m⟩).toArray = #[.string ⟨#[97]⟩, .bool false, .int .u8 0, .int .u8 0, .int .u8 0, .int .u8 0, .int .u8 0, .int .u8 0, .int .u8 0, .int .u8 0, .int .u8 0, .int .u8 0, .int .u8 0, .int .u8 0, .int .u8 0, .int .u8 0, .int .u8 0, .int .u8 0, .int .u64 m] := rfl
theorem longR_succ (z : List Int) (k : Nat) : longR z (k + 1) = [⟨keyA, 0, mst z (k + 1)⟩] := if_neg (by omega)
theorem longR_KN (z : List Int) (k : Nat) : KNF (longR z k) := by unfold longR; split <;> simp [KNF]
theorem wpList_buildSlice_want {P : Program} {w : World} {ops : Array Oper} {rest : List Oper} {o : Oper} {a : Act} {Q : Exit → Act → World → Prop} (hw : Region.wanted o (yielded ops a.tmps) = true) {t e : TypeId} {x : Operand} (ho : o.op = .buildSlice t 1 #[(0, x)]) {v z : Value} {sz : Nat} (hv : a.eval x = v)
    (ht : P.underlying t = some (.slice e)) (hi : (P.info? e).map (fun i => (i.zero, i.size)) = some (some z, sz)) (hs : v.cells.size = sz) (hpos : 0 < sz) (hle : sz ≤ 1000)
    (h : wpList P ops Q rest (a.put o.dst (.slice (some ⟨w.heap.size, 0, none⟩) 1 1)) (w.alloc (.cells v.cells e))) : wpList P ops Q (o :: rest) a w :=
  BigFrame.wpList_want hw fun _ hK => wp_buildSlice_one ho hv ht hi hs hpos hle (hK _ _ h)
set_option maxRecDepth 8000 in
set_option maxHeartbeats 16000000 in
theorem longer_any (a0 : Option Addr) (len0 cap0 : Nat) (z0 : List Int) (now : Int) (w : World) (w0 : IsRow .u64 w a0 len0 cap0 z0) (hE : Et w) :
    Calls Tryd.prog 12 #[.slice a0 len0 cap0, .int .u64 now] w fun e w' => e = .returned (.bool true) ∧ Below w.heap.size w w' := by
  have hlen := w0.len_le
  unfold maxLen at hlen
  have e0 : errV 0 = .nilIface := rfl
  have c1 := fNew_any 2 (Sat.start w)
  rw [show roomOf 2 = 2 by decide] at c1
  have HFB := Lib.hid (fun m => fct_built ⟨#[97]⟩ zAdr m)
  go_enter Tryd.func12, Tryd.ntmps12
  go_wp2_with fail
  refine c1.mono ?_
  rintro e w1 ⟨t, rfl, hS1⟩
  clear c1
  go_wp2_with fail
  refine (awake25_any _ (hS1.et hE.pos hE)).mono ?_
  rintro e w2 ⟨rfl, hb2⟩
  have hS2 := hS1.below_ hb2
  clear hS1 hb2
  go_wp2_with fail
  go_loopw [6, 7] (fun m i wr => ∃ k : Nat, k ≤ len0 ∧ k ≤ 40 ∧ i = .int .i64 k ∧ m = .int .u64 (mst z0 k) ∧ Sat w.heap.size w wr (ftab t 2 (longR z0 k) (longN k) • emp)) (fun _ i _ => len0 - (intOf i).toNat)
  case atStart => exact ⟨0, Nat.zero_le _, by omega, rfl, rfl, hS2⟩
  case round =>
    clear hS2
    obtain ⟨k, hk, hk40, rfl, rfl, hS⟩ := hrel
    by_cases hlt : k < len0 ∧ k < 40
    · obtain ⟨hl1, hl2⟩ := hlt
      have hzz : 0 ≤ z0.getD k 0 := by
        obtain ⟨_, _, _, _, hwf⟩ := w0.at_ hl1
        exact (wf_u64 hwf).1
      obtain ⟨x, rfl, hxl, hxw⟩ := w0.at' hl1
      have hc := hxw _ hS.below
      obtain ⟨p1, p2, p3⟩ := long_step z0 k hzz
      have hms : max (mst z0 k) (z0.getD k 0) = mst z0 (k + 1) := rfl
      have c2 := fLearn_any hS hE.pos hE (longR_KN z0 k) (by unfold longN; split <;> omega) ⟨#[97]⟩ zAdr (z0.getD k 0)
      rw [show (⟨⟨#[97]⟩, zAdr⟩ : Fk) = keyA from rfl, p1, p2, p3, e0] at c2
      have hk1 : (k : Int) < len0 := by omega
      have hk2 : (k : Int) < 40 := by omega
      have HMS := Lib.hid hms
      have HFK := Lib.hid (HFB.out (mst z0 (k + 1)))
      have hlr := longR_succ z0 k
      have hln : longN (k + 1) = 1 := if_neg (by omega)
      have HLN := Lib.hid hln
      clear p1 p2 p3 hS hms hln
      generalize hzk : z0.getD k 0 = zk at *
      clear hzk
      generalize mst z0 k = mk at *
      generalize hmk : mst z0 (k + 1) = mk1 at *
      have HMK := Lib.hid hmk
      clear hmk
      have hmx : max mk zk = mk1 := HMS.out
      rw [hlr, zAdr_lit] at c2
      go_wp2_with fail
      refine c2.mono ?_
      rintro e w3 ⟨rfl, hS3⟩
      have c3 := fLen_any hS3
      rw [show (([⟨keyA, 0, mk1⟩] : List (Itm Fk)).length : Int) = 1 from rfl] at c3
      clear c2
      go_wp2_with fail
      refine c3.mono ?_
      rintro e wx ⟨rfl, rfl⟩
      have c4 := fAll_any hS3
      clear c3
      go_wp2_with fail
      refine c4.mono ?_
      rintro e w4 ⟨v4, rfl, hS4⟩
      obtain ⟨A4, c4', rfl⟩ := hS4.arr_form
      rw [show ([⟨keyA, 0, mk1⟩] : List (Itm Fk)).length = 1 from rfl, show fcts ([⟨keyA, 0, mk1⟩] : List (Itm Fk)) = [⟨keyA, mk1⟩] from rfl] at hS4
      have hS5 := hS4.alloc_ (.cells (Fct.enc ⟨keyA, mk1⟩).toArray 99)
      have hr1 : RowsAt Fct.enc (w4.alloc (.cells (Fct.enc ⟨keyA, mk1⟩).toArray 99)) (.slice A4 1 c4') [⟨keyA, mk1⟩] := rows_of_arr (by unfold maxLen; simp) hS5
      have hr2 : RowsAt Fct.enc (w4.alloc (.cells (Fct.enc ⟨keyA, mk1⟩).toArray 99)) (.slice (some ⟨w4.heap.size, 0, none⟩) 1 1) [⟨keyA, mk1⟩] := ⟨by simpa using reads_new (w := w4) (m := 1) (c := 1) (t := 99) (cs := Fct.enc ⟨keyA, mk1⟩), by unfold maxLen; simp⟩
      have c5 := plainF_any _ _ _ _ _ hr1 hr2
      rw [sameOf_refl eqD_refl] at c5
      clear hr1 hr2 c4 hS4 hS3
      rw [fctA_lit] at c5
      go_wp2_with fail
      refine c5.mono ?_
      rintro e w6 ⟨rfl, hb6⟩
      have hS6 := (hS5.below_ hb6).drop
      clear c5 hS5 hb6
      go_wp2_with fail
      go_roundw
      case rel => exact ⟨k + 1, by omega, by omega, by go_num, by rw [HMK.out], by rw [HLN.out, hlr]; exact hS6⟩
      case measure => simp [intOf]; omega
    · have hstop : (len0 : Int) ≤ k ∨ ((k : Int) < len0 ∧ (40 : Int) ≤ k) := by omega
      have hk0 : k = 0 → len0 = 0 := by omega
      have hkp : k ≠ 0 → ((len0 : Int) == 0) = false := fun h => by
        rw [beq_eq_false_iff_ne]; omega
      by_cases hz : k = 0
      · subst hz
        obtain rfl : len0 = 0 := hk0 rfl
        have c2 := fLen_any hS
        rw [show ((longR z0 0).length : Int) = 0 from rfl] at c2
        clear hstop hk0 hkp
        go_wp2_with fail
        refine c2.mono ?_
        rintro e wx ⟨rfl, rfl⟩
        go_wp2_with fail
        go_ret
        exact ⟨rfl, hS.below⟩
      · have hlb := hkp hz
        have hlr : longR z0 k = [⟨keyA, 0, mst z0 k⟩] := if_neg hz
        rw [hlr] at hS
        generalize longN k = nx at *
        clear hk0 hkp hlr hlt hk40 hk hz
        generalize mst z0 k = mk at *
        have c2 := fExpire_any hS now
        by_cases hle : mk ≤ now
        · have hf : ([⟨keyA, 0, mk⟩] : List (Itm Fk)).filter (fun x => !lateF now x) = [] := by simp [lateF, hle]
          rw [hf, show ((([⟨keyA, 0, mk⟩] : List (Itm Fk)).length : Int) - (([] : List (Itm Fk)).length : Int)) = 1 from rfl] at c2
          have hgt : ¬ now < mk := by omega
          clear hf hS
          rcases hstop with h1 | ⟨h1, h2⟩
          all_goals
            go_wp2_with fail
            refine c2.mono ?_
            rintro e w2 ⟨rfl, hS2⟩
            have c3 := fNames_any hS2 zAdr
            rw [show namesL (fcts ([] : List (Itm Fk))) zAdr = [] from rfl, zAdr_lit] at c3
            clear c2
            go_wp2_with fail
            refine c3.mono ?_
            rintro e w3 ⟨v3, rfl, hS3⟩
            obtain ⟨A3, c3', rfl⟩ := hS3.arr_form
            clear c3
            go_wp2_with fail
            go_ret
            exact ⟨by rw [show decide (now < mk) = false from decide_eq_false (by omega)]; rfl, hS3.below⟩
        · have hf : ([⟨keyA, 0, mk⟩] : List (Itm Fk)).filter (fun x => !lateF now x) = [⟨keyA, 0, mk⟩] := by simp [lateF]; omega
          rw [hf, Int.sub_self] at c2
          have hgt : now < mk := by omega
          clear hf hS
          rcases hstop with h1 | ⟨h1, h2⟩
          all_goals
            go_wp2_with fail
            refine c2.mono ?_
            rintro e w2 ⟨rfl, hS2⟩
            have c3 := fNames_any hS2 zAdr
            rw [show namesL (fcts ([⟨keyA, 0, mk⟩] : List (Itm Fk))) zAdr = [⟨#[97]⟩] by simp [namesL, fcts, keyA], zAdr_lit] at c3
            clear c2
            go_wp2_with fail
            refine c3.mono ?_
            rintro e w3 ⟨v3, rfl, hS3⟩
            obtain ⟨A3, c3', rfl⟩ := hS3.arr_form
            clear c3
            go_wp2_with fail
            go_ret
            exact ⟨by rw [show decide (mk ≤ now) = false from decide_eq_false (by omega)]; rfl, hS3.below⟩
end Go.Proofs.YtepaanpdjadakaaDoor
