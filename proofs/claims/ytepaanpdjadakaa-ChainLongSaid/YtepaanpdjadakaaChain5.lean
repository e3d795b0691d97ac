import Derived.Test.YtepaanpdjadakaaChain4
/-! The document's side: alias, In. -/
namespace Go.Proofs.Ytepaanpdjadakaa
open Go Go.RowKit

theorem cell_add {w : World} {a : Addr} {n : Nat} {v : Value} (h : w.cell? (a.add (n + 1)) = some v) : w.cell? { block := a.block, off := a.off + (n + 1) } = some v := by
  rwa [Addr.add_succ'] at h
theorem nextOf_step (l : List Rec) (name : ByteArray) (k : Nat) (r : Rec) (b : Bool) (hrk : l[k]? = some r) (hno : nextOf (l.take k) name = none) (hb : (r.isAlias && (r.name.toList == name.toList)) = b) :
    nextOf (l.take (k + 1)) name = if b then some r else none := by
  unfold nextOf at hno ⊢
  rw [List.take_add_one, hrk, Option.toList_some, List.find?_append, hno]
  simp only [Option.none_or, List.find?_cons, hb]
  cases b <;> rfl
theorem nextOf_done (l : List Rec) (name : ByteArray) (k : Nat) (r : Rec) (h : nextOf (l.take k) name = some r) : nextOf l name = some r := by
  unfold nextOf at h ⊢
  rw [← List.take_append_drop k l, List.find?_append, h]; rfl

set_option maxHeartbeats 1000000 in
theorem alias_any (l : List Rec) (v : Value) (name : ByteArray) (w : World) (hr : RecsAt w v l) :
    Calls Try.prog 30 #[v, .string name] w fun e w' => e = .returned (.tuple #[.agg ((nextOf l name).getD zeroRec).enc.toArray, .bool (nextOf l name).isSome]) ∧ Below w.heap.size w w' := by
  obtain ⟨A, c, hA⟩ := hr.1.len
  subst hA
  have hll := hr.2
  go_enter Try.func30, Try.ntmps30
  go_wp2_with fail
  have hS0 := (Sat.start w).alloc (.cells zeroRec.enc.toArray 54)
  go_loopw [6] (fun i wr => ∃ k : Nat, k ≤ l.length ∧ i = .int .i64 k ∧ Sat w.heap.size w wr (blk w.heap.size (.cells zeroRec.enc.toArray 54) • emp) ∧ nextOf (l.take k) name = none)
    (fun i _ => l.length - (intOf i).toNat)
  case atStart => exact ⟨0, Nat.zero_le _, rfl, hS0, rfl⟩
  case round =>
    obtain ⟨k, hk, rfl, hS, hno⟩ := hrel
    clear hS0
    by_cases hlt : k < l.length
    · obtain ⟨r, hrk⟩ : ∃ r, l[k]? = some r := ⟨_, List.getElem?_eq_getElem hlt⟩
      obtain ⟨a, c', hv, hcell⟩ := (hr.below hS.below).1.elem Rec.enc_length hrk
      cases hv
      have hl1 : (Instr.loadAt 54 (.pointer (some (a.add (k * 23))))).run Try.prog wr = .ok (.agg r.enc.toArray) wr :=
        run_loadAt_cells Try.underlying54 rfl (by rw [r.enc_length]; kernel_rfl) (fun j u hu => by rw [add_add']; exact hcell j u hu)
      have hc0 := hcell 0 _ r.at0
      have hc1 := hcell 1 _ r.at1
      have hc2 := hcell 2 _ r.at2
      rw [← add_add'] at hc1 hc2
      rw [Nat.add_zero] at hc0
      have hc1 := cell_add hc1
      have hc2 := cell_add hc2
      have hst := run_storeAt_row (P := Try.prog) (o := 0) (ty := 54) (v := .agg r.enc.toArray) hS.heap (by simp only [Value.cells, List.size_toArray, r.enc_length]; kernel_rfl) (by simp [Value.cells, r.enc_length, zeroRec.enc_length]) (by simpa [Value.cells] using r.enc_one)
      have hS3 := hS.setRow (cs := splice zeroRec.enc.toArray 0 (Value.agg r.enc.toArray).cells.toList)
      rw [splice_all (by simp [Value.cells, r.enc_length, zeroRec.enc_length])] at hS3 hst
      have hl3 : (Instr.loadAt 54 (.pointer (some ⟨w.heap.size, 0, none⟩))).run Try.prog _ = .ok (.agg r.enc.toArray) _ :=
        run_loadAt_row hS3.heap Try.underlying54 rfl (by rw [r.enc_length]; kernel_rfl) (fun j u hu => by simpa [Value.cells] using hu)
      cases hnm : (r.name.toList == name.toList)
      · have hn1 := nextOf_step l name k r false hrk hno (by rw [hnm, Bool.and_false])
        clear hno
        go_wp2_with fail
        go_roundw
        case rel => exact ⟨k + 1, by omega, by go_num, hS, hn1⟩
        case measure => simp [intOf]; omega
      · cases h5 : (r.typ == 5)
        · have hn1 := nextOf_step l name k r false hrk hno (by rw [hnm, Rec.isAlias, h5]; simp)
          clear hno
          go_wp2_with fail
          go_roundw
          case rel => exact ⟨k + 1, by omega, by go_num, hS, hn1⟩
          case measure => simp [intOf]; omega
        · cases h1 : (r.cls == 1)
          · have hn1 := nextOf_step l name k r false hrk hno (by rw [hnm, Rec.isAlias, h5, h1]; simp)
            clear hno
            go_wp2_with fail
            go_roundw
            case rel => exact ⟨k + 1, by omega, by go_num, hS, hn1⟩
            case measure => simp [intOf]; omega
          · have hn1 := nextOf_done l name (k + 1) r (nextOf_step l name k r true hrk hno (by rw [hnm, Rec.isAlias, h5, h1]; simp))
            have HF := Lib.hid hn1
            clear hno hn1
            go_wp2_with (first | (refine wpList_load_run rfl rfl rfl hl1 ?_) | (refine wpList_store_run rfl rfl rfl rfl hst ?_))
            refine ret_cell_tmp rfl rfl rfl hl3 rfl ⟨?_, hS3.below⟩
            rw [HF.out]; rfl
    · obtain rfl : k = l.length := by omega
      rw [List.take_length] at hno
      have HN := Lib.hid hno
      clear hno
      have hsz := run_storeAt_row (P := Try.prog) (o := 0) (ty := 54) (v := .agg zeroRec.enc.toArray) hS.heap (by simp only [Value.cells, List.size_toArray, zeroRec.enc_length]; kernel_rfl) (by simp [Value.cells]) (by simpa [Value.cells] using zeroRec.enc_one)
      have hSz := hS.setRow (cs := splice zeroRec.enc.toArray 0 (Value.agg zeroRec.enc.toArray).cells.toList)
      rw [splice_all (by simp [Value.cells])] at hSz hsz
      have hlz : (Instr.loadAt 54 (.pointer (some ⟨w.heap.size, 0, none⟩))).run Try.prog _ = .ok (.agg zeroRec.enc.toArray) _ :=
        run_loadAt_row hSz.heap Try.underlying54 rfl (by rw [zeroRec.enc_length]; kernel_rfl) (fun j u hu => by simpa [Value.cells] using hu)
      go_wp2_with (refine wpList_store_run rfl rfl rfl rfl hsz ?_)
      refine ret_cell_tmp rfl rfl rfl hlz rfl ⟨?_, hSz.below⟩
      rw [HN.out]; rfl

set_option maxHeartbeats 1000000 in
theorem in_any (l : List ByteArray) (s : ByteArray) (v : Value) (w : World) (hv : NamesAt w v l) :
    Calls Try.prog 31 #[v, .string s] w fun e w' => e = .returned (.bool (hasName l s)) ∧ Below w.heap.size w w' := by
  obtain ⟨A, c, hA⟩ := hv.1.len
  subst hA
  have hll := hv.2
  go_enter Try.func31, Try.ntmps31
  go_wp2_with fail
  go_loopw [5] (fun i wr => ∃ k : Nat, k ≤ l.length ∧ i = .int .i64 k ∧ Sat w.heap.size w wr emp ∧ (l.take k).any (fun x => x.toList == s.toList) = false)
    (fun i _ => l.length - (intOf i).toNat)
  case atStart => exact ⟨0, Nat.zero_le _, rfl, Sat.start w, rfl⟩
  case round =>
    obtain ⟨k, hk, rfl, hS, hno⟩ := hrel
    by_cases hlt : k < l.length
    · obtain ⟨x, hxk⟩ : ∃ x, l[k]? = some x := ⟨_, List.getElem?_eq_getElem hlt⟩
      obtain ⟨a, c', hv', hcell⟩ := (hv.below hS.below).elem hxk
      cases hv'
      have hn := any_take l (fun x => x.toList == s.toList) k x hxk hno
      cases hd : (x.toList == s.toList)
      · rw [hd] at hn
        go_wp2_with fail
        go_roundw
        case rel => exact ⟨k + 1, by omega, by go_num, hS, hn⟩
        case measure => simp [intOf]; omega
      · rw [hd] at hn
        have hany : hasName l s = true := by
          unfold hasName
          rw [List.any_eq_true] at hn ⊢
          obtain ⟨y, hy, hy'⟩ := hn
          exact ⟨y, List.mem_of_mem_take hy, hy'⟩
        go_wp2_with fail
        go_ret
        exact ⟨by rw [hany]; rfl, hS.below⟩
    · obtain rfl : k = l.length := by omega
      rw [List.take_length] at hno
      go_wp2_with fail
      go_ret
      exact ⟨by unfold hasName; rw [hno]; rfl, hS.below⟩
end Go.Proofs.Ytepaanpdjadakaa
