import Derived.Test.YtepaanpdjadakaaDoorPendA
import Derived.Test.YtepaanpdjadakaaDoorSameA
import Derived.Test.YtepaanpdjadakaaDoorTail
import Derived.Laws.MakeOwn
import Derived.Deep.Cut
/-! A copy of one's own of a slice of addresses, with three more behind it. -/
namespace Go.Proofs.YtepaanpdjadakaaDoor
open Go Go.RowKit

theorem wpList_make_run {P : Program} {w w' : World} {ops : Array Oper} {rest : List Oper} {o : Oper} {a : Act} {Q : Exit → Act → World → Prop} (hgd : o.guard = none) {t : TypeId} {x y : Operand} (ho : o.op = .makeSlice t x y) {p q v : Value} (hx : a.eval x = p) (hy : a.eval y = q)
    (hr : (Instr.makeSlice t p q).run P w = .ok v w') (h : wpList P ops Q rest (a.put o.dst v) w') : wpList P ops Q (o :: rest) a w :=
  wpList_plain hgd fun _ hK => by
    unfold Oper.wp execOp
    simp only [ho, hx, hy, Sem.run_bind, hr, Result.andThen_ok, Sem.run_pure, Oper.upon]
    exact hK _ _ h
theorem append_none {P : Program} {w : World} {t ty e : TypeId} {d : Nat × Nat × Nat} {z : Option Value} {A : Option Addr} {n c k : Nat} (ht : P.underlying t = some (.slice e)) (hi : (P.info? e).map (fun i => (i.zero, i.size, i.bytes)) = some (z, d.1, d.2.1)) (hn : n ≤ c) :
    (Builtin.append_ #[t, t] ty #[.slice A n c, .slice none 0 k]).run P w = .ok (.slice A n c) w := by
  obtain ⟨i0, hi0, hzz⟩ := Option.map_eq_some_iff.1 hi
  cases A with
  | none => simp [Builtin.append_, run_underlying ht, sizeOf, typeInfo, hi0, Builtin.lenOf, Builtin.firstCells, hn]
  | some g => simp [Builtin.append_, run_underlying ht, sizeOf, typeInfo, hi0, Builtin.lenOf, Builtin.firstCells, hn, storeCells]

def fillA : Adr := ⟨true, List.replicate 16 0, rfl⟩
/-- What lies behind: k of three are filled. -/
def ownL (ss : List Adr) (k : Nat) : List Adr := ss ++ (List.replicate k fillA ++ List.replicate (3 - k) zAdr)
theorem ownL_length (ss : List Adr) {k : Nat} (h : k ≤ 3) : (ownL ss k).length = ss.length + 3 := by simp [ownL]; omega
theorem ownL_set (ss : List Adr) {k : Nat} (h : k < 3) : (ownL ss k).set (ss.length + k) fillA = ownL ss (k + 1) := by
  unfold ownL
  rw [List.set_append_right _ _ (by omega), Nat.add_sub_cancel_left]
  congr 1
  have : k = 0 ∨ k = 1 ∨ k = 2 := by omega
  rcases this with rfl | rfl | rfl <;> rfl
theorem adr_info : (Tryd.prog.info? 63).map (fun i => (i.zero, i.size, i.bytes)) = some (some (.agg zAdr.enc.toArray), 17, 17) := by kernel_rfl
theorem flat_adr (l : List Adr) : (l.flatMap Adr.enc).length = l.length * 17 := flat_length Adr.enc_length l
theorem splice_adr {l : List Adr} {i : Nat} (h : i < l.length) (y : Adr) : splice (l.flatMap Adr.enc).toArray (i * 17) y.enc = ((l.set i y).flatMap Adr.enc).toArray := by
  unfold splice
  congr 1
  simp only
  have hs : l = l.take i ++ l[i] :: l.drop (i + 1) := by rw [← List.drop_eq_getElem_cons h, List.take_append_drop]
  have ht : ((l.take i).flatMap Adr.enc).length = i * 17 := by rw [flat_adr, List.length_take]; omega
  have h1 : l.flatMap Adr.enc = (l.take i).flatMap Adr.enc ++ (l[i].enc ++ (l.drop (i + 1)).flatMap Adr.enc) := by
    conv => lhs; rw [hs]
    rw [List.flatMap_append, List.flatMap_cons]
  have h2 : l.set i y = l.take i ++ y :: l.drop (i + 1) := by
    rw [List.set_eq_take_append_cons_drop, if_pos h]
  rw [h2, List.flatMap_append, List.flatMap_cons, h1, List.take_left' ht, ← List.drop_drop, List.drop_left' ht, Adr.enc_length, List.drop_left' (Adr.enc_length _)]
  simp
theorem made_adr (m : Nat) : madeCells (Value.agg zAdr.enc.toArray).cells (m * 17) = ((List.replicate m zAdr).flatMap Adr.enc).toArray := by
  apply Array.ext
  · rw [size_madeCells, List.size_toArray, flat_adr, List.length_replicate]
  · intro j h1 h2
    rw [size_madeCells] at h1
    have hj : j / 17 < m := Nat.div_lt_of_lt_mul (by rw [Nat.mul_comm]; exact h1)
    have hr : j % 17 < 17 := Nat.mod_lt _ (by decide)
    have he : j / 17 * 17 + j % 17 = j := Nat.div_add_mod' j 17
    have hg := flat_get Adr.enc_length (List.replicate m zAdr) (j / 17) (j % 17) zAdr (by rw [List.getElem?_replicate, if_pos hj]) hr
    rw [he] at hg
    have hz : zAdr.enc.length = 17 := Adr.enc_length _
    have h3 : ((List.replicate m zAdr).flatMap Adr.enc)[j]? = some (zAdr.enc[j % 17]'(by omega)) := by rw [hg, List.getElem?_eq_getElem]
    have h4 : ((List.replicate m zAdr).flatMap Adr.enc).toArray[j] = zAdr.enc[j % 17]'(by omega) := by
      have := (List.getElem?_eq_some_iff.1 h3).2
      simpa using this
    rw [h4]
    simp only [madeCells, Array.getElem_map, Array.getElem_range, Value.cells, List.size_toArray, hz]
    rw [getElem!_pos _ _ (by simpa [hz] using hr)]
    simp
section
variable {B : Nat} {w0 w w' : World} {F : HP}
/-- The copy: a block of one's own. -/
def own (g : Nat) (ss : List Adr) (k : Nat) : HP := blk g (.cells ((ownL ss k).flatMap Adr.enc).toArray 63)
theorem Sat.own_reads {g k : Nat} {ss : List Adr} (h : Sat B w0 w (own g ss k • F)) (hl : ss.length ≤ 1000) : RowsAt Adr.enc w (.slice (some ⟨g, 0, none⟩) ss.length (ss.length + 3)) ss := by
  refine ⟨.inr ⟨_, _, rfl, fun j u hu => ?_⟩, by unfold maxLen; omega⟩
  rw [Addr.add_lit]
  have hj : j < (ss.flatMap Adr.enc).length := (List.getElem?_eq_some_iff.1 hu).1
  refine cell_heap h.heap ?_
  rw [Nat.zero_add, List.getElem?_toArray]
  unfold ownL
  rw [List.flatMap_append, List.getElem?_append_left hj]
  exact hu
set_option maxRecDepth 8000 in
set_option maxHeartbeats 4000000 in
theorem own_any (h : Sat B w0 w F) (ss : List Adr) (v : Value) (hv : RowsAt Adr.enc w v ss) (hl : ss.length ≤ 1000) :
    Calls Tryd.prog 51 #[v, .agg fillA.enc.toArray] w fun e w' => ∃ g, e = .returned (.slice (some ⟨g, 0, none⟩) ss.length (ss.length + 3)) ∧ Sat B w0 w' (own g ss 3 • F) := by
  obtain ⟨A, c, rfl⟩ := hv.form
  obtain ⟨i0, hi0, hzz⟩ := Option.map_eq_some_iff.1 adr_info
  simp only [Prod.mk.injEq] at hzz
  have hX := h.alloc (.cells fillA.enc.toArray 63)
  have hv2 : RowsAt Adr.enc (w.alloc (.cells fillA.enc.toArray 63)) (.slice A ss.length c) ss := hv.below ((Below.refl _ _).alloc (Nat.le_refl _) _)
  have hmk := run_make (P := Tryd.prog) (w.alloc (.cells fillA.enc.toArray 63)) 76 63 i0 (.agg zAdr.enc.toArray) Tryd.underlying76 hi0 hzz.1 .i64 .i64 0 ((ss.length + 3 : Nat) : Int) (Int.le_refl _) (by omega) (by rw [hzz.2.2]; omega) (by omega)
  rw [hzz.2.1, Int.toNat_natCast, made_adr, Int.toNat_zero, World.size_alloc] at hmk
  have hY := hX.alloc (.cells ((List.replicate (ss.length + 3) zAdr).flatMap Adr.enc).toArray 63)
  rw [World.size_alloc] at hY
  have hv3 := hv2.below ((Below.refl _ _).alloc (Nat.le_refl _) (.cells ((List.replicate (ss.length + 3) zAdr).flatMap Adr.enc).toArray 63))
  obtain ⟨w2, hap, hZ⟩ : ∃ w2, (Builtin.append_ #[76, 76] 76 #[.slice (some ⟨w.heap.size + 1, 0, none⟩) 0 (ss.length + 3), .slice A ss.length c]).run Tryd.prog ((w.alloc (.cells fillA.enc.toArray 63)).alloc (.cells ((List.replicate (ss.length + 3) zAdr).flatMap Adr.enc).toArray 63)) = .ok (.slice (some ⟨w.heap.size + 1, 0, none⟩) ss.length (ss.length + 3)) w2 ∧
      Sat B w0 w2 (own (w.heap.size + 1) ss 0 • blk w.heap.size (.cells fillA.enc.toArray 63) • F) := by
    have hrep : List.replicate (ss.length + 3) zAdr = List.replicate ss.length zAdr ++ List.replicate 3 zAdr := (List.replicate_append_replicate).symm
    rcases hv3.1 with ⟨c0, hA, h0, h1⟩ | ⟨a, c0, hA, hc⟩
    · simp only [Value.slice.injEq] at hA
      obtain ⟨rfl, _, rfl⟩ := hA
      have hss : ss = [] := List.eq_nil_of_length_eq_zero h0
      subst hss
      exact ⟨_, append_none (d := (17, 17, 0)) Tryd.underlying76 adr_info (by omega), hY⟩
    · simp only [Value.slice.injEq] at hA
      obtain ⟨rfl, _, rfl⟩ := hA
      have hr := run_append_room (P := Tryd.prog) _ 76 76 63 i0 Tryd.underlying76 hi0 (w.heap.size + 1) 0 (ss.length + 3) _ hY.heap a ss.length c (ss.flatMap Adr.enc) (by rw [hzz.2.1, flat_adr]) hc (fun u hu => by obtain ⟨x, _, hx⟩ := List.mem_flatMap.1 hu; exact x.enc_one u hx) (by omega) (by rw [flat_adr, List.size_toArray, flat_adr, List.length_replicate]; omega)
      rw [Nat.zero_add] at hr
      refine ⟨_, hr, ?_⟩
      have hZ := hY.setRow (cs := (((List.replicate (ss.length + 3) zAdr).flatMap Adr.enc).toArray.toList.take (0 * i0.size) ++ ss.flatMap Adr.enc ++ ((List.replicate (ss.length + 3) zAdr).flatMap Adr.enc).toArray.toList.drop (0 * i0.size + (ss.flatMap Adr.enc).length)).toArray)
      have hcs : (((List.replicate (ss.length + 3) zAdr).flatMap Adr.enc).toArray.toList.take (0 * i0.size) ++ ss.flatMap Adr.enc ++ ((List.replicate (ss.length + 3) zAdr).flatMap Adr.enc).toArray.toList.drop (0 * i0.size + (ss.flatMap Adr.enc).length)).toArray = ((ownL ss 0).flatMap Adr.enc).toArray := by
        congr 1
        rw [Nat.zero_mul, Nat.zero_add, List.take_zero, List.nil_append, hrep, List.flatMap_append, List.drop_left' (by rw [flat_adr, flat_adr, List.length_replicate])]
        simp [ownL]
      rw [hcs] at hZ ⊢
      exact hZ
  have hst : ∀ k, k < 3 → ∀ W, Sat B w0 W (own (w.heap.size + 1) ss k • blk w.heap.size (.cells fillA.enc.toArray 63) • F) → ∃ W', (Instr.storeAt 63 (.pointer (some ⟨w.heap.size + 1, (ss.length + k) * 17, none⟩)) (.agg fillA.enc.toArray)).run Tryd.prog W = .ok () W' ∧ Sat B w0 W' (own (w.heap.size + 1) ss (k + 1) • blk w.heap.size (.cells fillA.enc.toArray 63) • F) := by
    intro k hk W hW
    have hlen := ownL_length ss (k := k) (by omega)
    have hr := run_storeAt_row (P := Tryd.prog) (o := (ss.length + k) * 17) (ty := 63) (v := .agg fillA.enc.toArray) hW.heap (by simp only [Value.cells, List.size_toArray, Adr.enc_length]; kernel_rfl) (by simp only [Value.cells, List.size_toArray, Adr.enc_length, flat_adr, hlen]; omega) (by simpa [Value.cells] using fillA.enc_one)
    refine ⟨_, hr, ?_⟩
    have hZ := hW.setRow (cs := splice ((ownL ss k).flatMap Adr.enc).toArray ((ss.length + k) * 17) fillA.enc)
    rw [splice_adr (by omega), ownL_set ss hk] at hZ
    have hsp := splice_adr (l := ownL ss k) (i := ss.length + k) (by omega) fillA
    rw [ownL_set ss hk] at hsp
    show Sat B w0 (W.setRow _ (splice _ _ fillA.enc)) _
    rw [hsp]
    exact hZ
  have hlf : ∀ W, W.heap[w.heap.size]? = some (.cells fillA.enc.toArray 63) → (Instr.loadAt 63 (.pointer (some ⟨w.heap.size, 0, none⟩))).run Tryd.prog W = .ok (.agg fillA.enc.toArray) W :=
    fun W h => run_loadAt_row h Tryd.underlying63 rfl (by rw [Adr.enc_length]; kernel_rfl) (fun j u hu => by simpa using hu)
  have HST := Lib.hid hst
  have HLF := Lib.hid hlf
  clear hst hlf hv hv2 hv3 hX hY h hzz hi0
  generalize fillA.enc.toArray = Q0 at *
  generalize ss.length = n at *
  go_enter Tryd.func51, Tryd.ntmps51
  go_wp2_with (first | (refine wpList_make_run rfl rfl rfl rfl hmk ?_) | (at_builtin; refine wpList_append_run rfl _ _ _ rfl rfl rfl hap (stop_ ?_)))
  unfold Stop
  clear hmk hap
  go_wp2_with fail
  go_loopw [7] (fun i wr => ∃ k : Nat, k ≤ 3 ∧ i = .int .i64 ((n + k : Nat) : Int) ∧ Sat B w0 wr (own (w.heap.size + 1) ss k • blk w.heap.size (.cells Q0 63) • F)) (fun i _ => n + 3 - (intOf i).toNat)
  case atStart => exact ⟨0, by omega, rfl, hZ⟩
  case round =>
    clear hZ
    obtain ⟨k, hk, rfl, hS⟩ := hrel
    by_cases hlt : k < 3
    · obtain ⟨W1, hst, hS1⟩ := HST.out k hlt _ hS
      have hlf := HLF.out _ hS.pull2.heap
      obtain ⟨m, hm⟩ : ∃ m, n + k = m := ⟨_, rfl⟩
      rw [hm] at hst ⊢
      have hltz : (m : Int) < (n : Int) + 3 := by omega
      clear hS
      go_wp2_with (first | (refine wpList_load_run (t := 63) rfl rfl rfl hlf ?_) | (refine wpList_store_run (t := 63) rfl rfl rfl rfl hst ?_))
      go_roundw
      case rel => exact ⟨k + 1, by omega, by rw [← Nat.add_assoc, hm]; go_num, hS1⟩
      case measure => simp [intOf]; omega
    · obtain rfl : k = 3 := by omega
      have hltz : ¬ ((n + 3 : Nat) : Int) < (n : Int) + 3 := by omega
      go_wp2_with fail
      go_ret
      exact ⟨_, rfl, hS.pull2.drop⟩
end
end Go.Proofs.YtepaanpdjadakaaDoor
