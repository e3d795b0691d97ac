import Derived.Test.YtepaanpdjadakaaChainD
import Derived.WalkLawsBesides
import Derived.WalkSpells
import Derived.Lib.Hide
/-! chain.leads, chain.next. -/
namespace Go.Proofs.Ytepaanpdjadakaa
open Go Go.RowKit

set_option maxHeartbeats 1000000 in
theorem leads_any (r : Rec) (w : World) : Calls Try.prog 36 #[.agg r.enc.toArray] w fun e w' => e = .returned (.tuple #[.bool r.isAddr, .bool r.isAlias]) ∧ w' = w.alloc (.cells r.enc.toArray 54) := by
  have h1 := r.at1
  have h2 := r.at2
  have key : ∀ (p q : Bool), r.isAddr = p → r.isAlias = q → (r.cls == 1) = true ∧ (((r.typ == 5) = true ∧ p = false ∧ q = true) ∨ ((r.typ == 5) = false ∧ (r.typ == 1) = true ∧ p = true ∧ q = false) ∨ ((r.typ == 5) = false ∧ (r.typ == 1) = false ∧ (r.typ == 28) = true ∧ p = true ∧ q = false) ∨ ((r.typ == 5) = false ∧ (r.typ == 1) = false ∧ (r.typ == 28) = false ∧ p = false ∧ q = false)) ∨ ((r.cls == 1) = false ∧ p = false ∧ q = false) := by
    intro p q hp hq
    unfold Rec.isAddr at hp
    unfold Rec.isAlias at hq
    cases hc : (r.cls == 1) <;> cases h5 : (r.typ == 5) <;> cases h11 : (r.typ == 1) <;> cases h28 : (r.typ == 28) <;> simp_all
  generalize hp : r.isAddr = p
  generalize hq : r.isAlias = q
  have k := key p q hp hq
  clear key hp hq
  rcases k with ⟨hc, ⟨h5, rfl, rfl⟩ | ⟨h5, h11, rfl, rfl⟩ | ⟨h5, h11, h28, rfl, rfl⟩ | ⟨h5, h11, h28, rfl, rfl⟩⟩ | ⟨hc, rfl, rfl⟩
  all_goals
    first
    | have hn : (r.cls != 1) = false := by simpa using hc
    | have hn : (r.cls != 1) = true := by simpa using hc
    go_enter Try.func36, Try.ntmps36
    go_wp2
    go_ret2
    exact ⟨rfl, rfl⟩

theorem leads_b (r : Rec) (w : World) : Calls Try.prog 36 #[.agg r.enc.toArray] w fun e w' => e = .returned (.tuple #[.bool r.isAddr, .bool r.isAlias]) ∧ Below w.heap.size w w' :=
  (leads_any r w).mono fun _ _ ⟨he, hw⟩ => ⟨he, by subst hw; exact (Below.refl _ _).alloc (Nat.le_refl _) _⟩

/-- What a slice of records holds. -/
def RecsAt (w : World) (v : Value) (l : List Rec) : Prop := Reads w v l.length (l.flatMap Rec.enc) ∧ l.length ≤ 9223372036854775807
theorem RecsAt.below {w w' : World} {v : Value} {l : List Rec} (h : RecsAt w v l) (hb : Below w.heap.size w w') : RecsAt w' v l := ⟨h.1.below hb, h.2⟩
/-- A message, of which the answers count. -/
structure Msg where
  c0 : Value
  c1 : Value
  c2 : Value
  c3 : Value
  c4 : Value
  c5 : Value
  ans : Value
  c7 : Value
  c8 : Value
def Msg.cells (m : Msg) : Array Value := #[m.c0, m.c1, m.c2, m.c3, m.c4, m.c5, m.ans, m.c7, m.c8]

def zeroRec : Rec := { name := ⟨#[]⟩, typ := 0, cls := 0, ttl := 0, addr := ⟨false, List.replicate 16 0, rfl⟩, tgt := ⟨#[]⟩, data := .slice none 0 0, one := rfl }
set_option maxHeartbeats 1000000 in
theorem next_any (m : Msg) (l : List Rec) (name : ByteArray) (w : World) (hr : RecsAt w m.ans l) :
    Calls Try.prog 27 #[.agg m.cells, .string name] w fun e w' => e = .returned (.tuple #[.agg ((nextOf l name).getD zeroRec).enc.toArray, .bool (nextOf l name).isSome]) ∧ Below w.heap.size w w' := by
  obtain ⟨A, c, hA⟩ := hr.1.len
  obtain ⟨c0, c1, c2, c3, c4, c5, ans, c7, c8⟩ := m
  simp only at hA hr
  subst hA
  have hll := hr.2
  unfold Msg.cells
  go_enter Try.func27, Try.ntmps27
  go_wp2_with fail
  have hS0 := ((Sat.start w).alloc_ (.cells #[c0, c1, c2, c3, c4, c5, .slice A l.length c, c7, c8] 38)).alloc (.cells zeroRec.enc.toArray 54)
  rw [World.size_alloc] at hS0
  have hst : ∀ (r : Rec) (W : World) (z : Array Value), z.size = 23 → (Instr.storeAt 54 (.pointer (some ⟨W.heap.size, 0, none⟩)) (.agg r.enc.toArray)).run Try.prog (W.alloc (.cells z 54)) = .ok () (W.alloc (.cells r.enc.toArray 54)) :=
    fun r W z hz => run_storeAt_new (v := .agg r.enc.toArray) (by simp only [Value.cells, List.size_toArray, r.enc_length]; kernel_rfl) (by simp only [Value.cells, List.size_toArray, r.enc_length]; exact hz) (by simpa [Value.cells] using r.enc_one)
  have hld : ∀ (r : Rec) (W : World), (Instr.loadAt 54 (.pointer (some ⟨W.heap.size, 0, none⟩))).run Try.prog (W.alloc (.cells r.enc.toArray 54)) = .ok (.agg r.enc.toArray) (W.alloc (.cells r.enc.toArray 54)) :=
    fun r W => run_loadAt_row (heap_alloc_new _ _) Try.underlying54 rfl (by rw [r.enc_length]; kernel_rfl) (fun j u hu => by simpa using hu)
  go_loopw [13] (fun i wr => ∃ k : Nat, k ≤ l.length ∧ i = .int .i64 k ∧ Sat w.heap.size w wr (blk (w.heap.size + 1) (.cells zeroRec.enc.toArray 54) • emp) ∧ nextOf (l.take k) name = none)
    (fun i _ => l.length - (intOf i).toNat)
  case atStart => exact ⟨0, Nat.zero_le _, rfl, hS0, rfl⟩
  case round =>
    obtain ⟨k, hk, rfl, hS, hno⟩ := hrel
    clear hS0
    by_cases hlt : k < l.length
    · obtain ⟨r, hrk⟩ : ∃ r, l[k]? = some r := ⟨_, List.getElem?_eq_getElem hlt⟩
      obtain ⟨a, c', hv, hcell⟩ := (hr.below hS.below).1.elem Rec.enc_length hrk
      cases hv
      have hl1 : (Instr.loadAt 54 (.pointer (some (a.add (k * 23))))).run Try.prog wr = .ok (.agg r.enc.toArray) wr :=
        run_loadAt_cells Try.underlying54 rfl (by rw [r.enc_length]; kernel_rfl) (fun j u hu => by rw [add_add']; exact hcell j u hu)
      have h0 := r.at0
      have hSr := hS.alloc (.cells r.enc.toArray 54)
      have hnx : ∀ b : Bool, (r.isAlias && (r.name.toList == name.toList)) = b → nextOf (l.take (k + 1)) name = if b then some r else none := by
        intro b hb
        unfold nextOf at hno ⊢
        rw [List.take_add_one, hrk, Option.toList_some, List.find?_append, hno]
        simp only [Option.none_or, List.find?_cons, hb]
        cases b <;> rfl
      cases hal : r.isAlias
      · have hn1 := hnx false (by rw [hal]; rfl)
        clear hnx hno
        go_wp2_with (first | (refine wpList_load_run rfl rfl rfl hl1 ?_) | (refine wpList_store_run rfl rfl rfl rfl (hst r _ _ rfl) ?_) | (refine wpList_load_run rfl rfl rfl (hld r _) ?_))
        refine (leads_any r _).mono ?_
        rintro e w' ⟨rfl, rfl⟩
        go_wp2_with fail
        go_roundw
        case rel => exact ⟨k + 1, by omega, by go_num, (hS.alloc_ _).alloc_ _, hn1⟩
        case measure => simp [intOf]; omega
      · cases hnm : (r.name.toList == name.toList)
        · have hn1 := hnx false (by rw [hal, hnm]; rfl)
          clear hnx hno
          go_wp2_with (first | (refine wpList_load_run rfl rfl rfl hl1 ?_) | (refine wpList_store_run rfl rfl rfl rfl (hst r _ _ rfl) ?_) | (refine wpList_load_run rfl rfl rfl (hld r _) ?_))
          refine (leads_b r _).mono ?_
          rintro e w2 ⟨rfl, hb2⟩
          have hS2 := hSr.below_ hb2
          have hcn : w2.cell? ⟨wr.heap.size, 0, none⟩ = some (.string r.name) := by simp [World.cell?, hS2.heap, h0]
          go_wp2_with fail
          go_roundw
          case rel => exact ⟨k + 1, by omega, by go_num, hS2.drop, hn1⟩
          case measure => simp [intOf]; omega
        · have hn1 := hnx true (by rw [hal, hnm]; rfl)
          clear hnx hno
          have hfin : nextOf l name = some r := by
            unfold nextOf at hn1 ⊢
            rw [← List.take_append_drop (k + 1) l, List.find?_append]
            rw [hn1]; rfl
          have HF := Lib.hid hfin
          clear hfin hn1
          go_wp2_with (first | (refine wpList_load_run rfl rfl rfl hl1 ?_) | (refine wpList_store_run rfl rfl rfl rfl (hst r _ _ rfl) ?_) | (refine wpList_load_run rfl rfl rfl (hld r _) ?_))
          refine (leads_b r _).mono ?_
          rintro e w2 ⟨rfl, hb2⟩
          have hS2 := hSr.below_ hb2
          have hcn : w2.cell? ⟨wr.heap.size, 0, none⟩ = some (.string r.name) := by simp [World.cell?, hS2.heap, h0]
          have hl2 : (Instr.loadAt 54 (.pointer (some ⟨wr.heap.size, 0, none⟩))).run Try.prog w2 = .ok (.agg r.enc.toArray) w2 :=
            run_loadAt_row hS2.heap Try.underlying54 rfl (by rw [r.enc_length]; kernel_rfl) (fun j u hu => by simpa using hu)
          have hs2 := run_storeAt_row (P := Try.prog) (o := 0) (ty := 54) (v := .agg r.enc.toArray) hS2.pull2.heap (by simp only [Value.cells, List.size_toArray, r.enc_length]; kernel_rfl) (by simp [Value.cells, r.enc_length, zeroRec.enc_length]) (by simpa [Value.cells] using r.enc_one)
          have hS3 := (hS2.pull2).setRow (cs := splice zeroRec.enc.toArray 0 (Value.agg r.enc.toArray).cells.toList)
          rw [splice_all (by simp [Value.cells, r.enc_length, zeroRec.enc_length])] at hS3 hs2
          have hl3 : (Instr.loadAt 54 (.pointer (some ⟨w.heap.size + 1, 0, none⟩))).run Try.prog _ = .ok (.agg r.enc.toArray) _ :=
            run_loadAt_row hS3.heap Try.underlying54 rfl (by rw [r.enc_length]; kernel_rfl) (fun j u hu => by simpa [Value.cells] using hu)
          clear hS2 hSr hb2
          go_wp2_with (first | (refine wpList_load_run rfl rfl rfl hl2 ?_) | (refine wpList_store_run rfl rfl rfl rfl hs2 ?_))
          refine ret_cell_tmp rfl rfl rfl hl3 rfl ⟨?_, hS3.below⟩
          rw [HF.out]; rfl
    · obtain rfl : k = l.length := by omega
      rw [List.take_length] at hno
      have HN := Lib.hid hno
      clear hno
      have hsz := run_storeAt_row (P := Try.prog) (o := 0) (ty := 54) (v := .agg zeroRec.enc.toArray) hS.heap (by simp only [Value.cells, List.size_toArray, zeroRec.enc_length]; kernel_rfl) (by simp [Value.cells]) (by simpa [Value.cells] using zeroRec.enc_one)
      have hSz := hS.setRow (cs := splice zeroRec.enc.toArray 0 (Value.agg zeroRec.enc.toArray).cells.toList)
      rw [splice_all (by simp [Value.cells])] at hSz hsz
      have hlz : (Instr.loadAt 54 (.pointer (some ⟨w.heap.size + 1, 0, none⟩))).run Try.prog _ = .ok (.agg zeroRec.enc.toArray) _ :=
        run_loadAt_row hSz.heap Try.underlying54 rfl (by rw [zeroRec.enc_length]; kernel_rfl) (fun j u hu => by simpa [Value.cells] using hu)
      go_wp2_with (refine wpList_store_run rfl rfl rfl rfl hsz ?_)
      refine ret_cell_tmp rfl rfl rfl hlz rfl ⟨?_, hSz.below⟩
      rw [HN.out]; rfl
end Go.Proofs.Ytepaanpdjadakaa
