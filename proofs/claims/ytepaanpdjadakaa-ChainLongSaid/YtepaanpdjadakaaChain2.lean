import Derived.Test.YtepaanpdjadakaaChain1
/-! What is found, and held against what is new: slices.ContainsFunc with its closure. -/
namespace Go.Proofs.Ytepaanpdjadakaa
open Go Go.RowKit

/-- What a slice of found ones holds. -/
def FndsAt (w : World) (v : Value) (l : List Fnd) : Prop := Reads w v l.length (l.flatMap Fnd.enc) ∧ l.length ≤ 9223372036854775807
theorem FndsAt.below {w w' : World} {v : Value} {l : List Fnd} (h : FndsAt w v l) (hb : Below w.heap.size w w') : FndsAt w' v l := ⟨h.1.below hb, h.2⟩

set_option maxHeartbeats 1000000 in
theorem alike_any (x : Fnd) (r : Rec) (b : Nat) (w : World) (hb : w.heap[b]? = some (.cells r.enc.toArray 54)) :
    Calls Try.prog 38 #[.agg x.enc.toArray, .pointer (some ⟨b, 0, none⟩)] w fun e w' => e = .returned (.bool (decide (x.addr = r.addr))) ∧ Below w.heap.size w w' := by
  go_enter Try.func38, Try.ntmps38
  have hS := (Sat.start w).alloc (.cells x.enc.toArray 49)
  have hb2 : (w.alloc (.cells x.enc.toArray 49)).heap[b]? = some (.cells r.enc.toArray 54) := by
    rw [heap_alloc_old _ _ (Array.getElem?_eq_some_iff.1 hb).1]; exact hb
  have h1 : (Instr.loadAt 46 (.pointer (some ⟨w.heap.size, 0, none⟩))).run Try.prog (w.alloc (.cells x.enc.toArray 49)) = .ok (.agg x.addr.enc.toArray) (w.alloc (.cells x.enc.toArray 49)) :=
    run_loadAt_row hS.heap Try.underlying46 rfl (by rw [Adr.enc_length]; kernel_rfl) (fun j u hu => by simpa using x.at0 j u hu)
  have h2 : (Instr.loadAt 46 (.pointer (some ⟨b, 4, none⟩))).run Try.prog (w.alloc (.cells x.enc.toArray 49)) = .ok (.agg r.addr.enc.toArray) (w.alloc (.cells x.enc.toArray 49)) :=
    run_loadAt_row hb2 Try.underlying46 rfl (by rw [Adr.enc_length]; kernel_rfl) (fun j u hu => by simpa using r.at4 j u hu)
  go_wp2_with (first | (refine wpList_load_run rfl rfl rfl h1 ?_) | (refine wpList_load_run rfl rfl rfl h2 ?_) | (refine wpList_eql_run rfl rfl rfl rfl (by kernel_rfl) (adr_eq 9997 x.addr r.addr) ?_))
  go_ret
  exact ⟨rfl, (Below.refl _ _).alloc (Nat.le_refl _) _⟩

theorem any_take {α : Type} (l : List α) (p : α → Bool) (k : Nat) (x : α) (hk : l[k]? = some x) (h : (l.take k).any p = false) : (l.take (k + 1)).any p = p x := by
  rw [List.take_add_one, hk, List.any_append, h]; simp
set_option maxHeartbeats 1000000 in
theorem indexFunc_any (l : List Fnd) (r : Rec) (v : Value) (b : Nat) (w : World) (hv : FndsAt w v l) (hb : w.heap[b]? = some (.cells r.enc.toArray 54)) :
    Calls Try.prog 40 #[v, .func (.func 38) #[] #[.pointer (some ⟨b, 0, none⟩)]] w fun e w' =>
      (∃ j : Int, e = .returned (.int .i64 j) ∧ decide (j ≥ 0) = (l.any fun x => decide (x.addr = r.addr))) ∧ Below w.heap.size w w' := by
  obtain ⟨A, c, hA⟩ := hv.1.len
  subst hA
  have hll := hv.2
  go_enter Try.func40, Try.ntmps40
  go_wp2_with fail
  go_loopw [8] (fun i wr => ∃ k : Nat, k ≤ l.length ∧ i = .int .i64 k ∧ Sat w.heap.size w wr emp ∧ (l.take k).any (fun x => decide (x.addr = r.addr)) = false)
    (fun i _ => l.length - (intOf i).toNat)
  case atStart => exact ⟨0, Nat.zero_le _, rfl, Sat.start w, rfl⟩
  case round =>
    obtain ⟨k, hk, rfl, hS, hno⟩ := hrel
    by_cases hlt : k < l.length
    · obtain ⟨x, hxk⟩ : ∃ x, l[k]? = some x := ⟨_, List.getElem?_eq_getElem hlt⟩
      obtain ⟨a, c', hv', hcell⟩ := (hv.below hS.below).1.elem Fnd.enc_length hxk
      cases hv'
      have hl1 : (Instr.loadAt 49 (.pointer (some (a.add (k * 18))))).run Try.prog wr = .ok (.agg x.enc.toArray) wr :=
        run_loadAt_cells Try.underlying49 rfl (by rw [x.enc_length]; kernel_rfl) (fun j u hu => by rw [add_add']; exact hcell j u hu)
      have hbr : wr.heap[b]? = some (.cells r.enc.toArray 54) := (hS.below.block b (Array.getElem?_eq_some_iff.1 hb).1).trans hb
      have hn := any_take l (fun x => decide (x.addr = r.addr)) k x hxk hno
      cases hd : decide (x.addr = r.addr)
      · rw [hd] at hn
        go_wp2_with (first | (refine wpList_load_run rfl rfl rfl hl1 ?_))
        refine (alike_any x r b wr hbr).mono ?_
        rintro e w' ⟨rfl, hb'⟩
        simp only [hd]
        go_wp2_with fail
        go_roundw
        case rel => exact ⟨k + 1, by omega, by go_num, hS.below_ hb', hn⟩
        case measure => simp [intOf]; omega
      · rw [hd] at hn
        have hany : (l.any fun x => decide (x.addr = r.addr)) = true := by
          rw [List.any_eq_true] at hn ⊢
          obtain ⟨y, hy, hy'⟩ := hn
          exact ⟨y, List.mem_of_mem_take hy, hy'⟩
        go_wp2_with (first | (refine wpList_load_run rfl rfl rfl hl1 ?_))
        refine (alike_any x r b wr hbr).mono ?_
        rintro e w' ⟨rfl, hb'⟩
        simp only [hd]
        go_wp2_with fail
        go_ret
        refine ⟨⟨k, rfl, ?_⟩, (hS.below_ hb').below⟩
        rw [hany]; simp
    · obtain rfl : k = l.length := by omega
      rw [List.take_length] at hno
      go_wp2_with fail
      go_ret
      exact ⟨⟨-1, rfl, by rw [hno]; rfl⟩, hS.below⟩
set_option maxHeartbeats 1000000 in
theorem containsFunc_any (l : List Fnd) (r : Rec) (v : Value) (b : Nat) (w : World) (hv : FndsAt w v l) (hb : w.heap[b]? = some (.cells r.enc.toArray 54)) :
    Calls Try.prog 37 #[v, .func (.func 38) #[] #[.pointer (some ⟨b, 0, none⟩)]] w fun e w' =>
      e = .returned (.bool (l.any fun x => decide (x.addr = r.addr))) ∧ Below w.heap.size w w' := by
  go_enter Try.func37, Try.ntmps37
  go_wp2_with fail
  refine (indexFunc_any l r v b w hv hb).mono ?_
  rintro e w' ⟨⟨j, rfl, hj⟩, hb'⟩
  go_wp2_with fail
  go_ret
  refine ⟨?_, hb'⟩
  rw [← hj]
  rfl

/-! Names. -/
/-- What a slice of names holds. -/
def NamesAt (w : World) (v : Value) (l : List ByteArray) : Prop := Reads w v l.length (l.map Value.string) ∧ l.length ≤ 9223372036854775807
theorem NamesAt.below {w w' : World} {v : Value} {l : List ByteArray} (h : NamesAt w v l) (hb : Below w.heap.size w w') : NamesAt w' v l := ⟨h.1.below hb, h.2⟩
theorem NamesAt.elem {w : World} {v : Value} {l : List ByteArray} (h : NamesAt w v l) {i : Nat} {x : ByteArray} (hi : l[i]? = some x) : ∃ a c, v = .slice (some a) l.length c ∧ w.cell? (a.add i) = some (.string x) := by
  have hlt : i < l.length := (List.getElem?_eq_some_iff.1 hi).1
  rcases h.1 with ⟨c, rfl, h0, _⟩ | ⟨a, c, rfl, h2⟩
  · omega
  · exact ⟨a, c, rfl, h2 _ _ (by simp [hi])⟩
theorem isrefl (a : ByteArray) : (a.toList == a.toList) = true := by simp
theorem beq_comm' (a b : ByteArray) : (a.toList == b.toList) = (b.toList == a.toList) := by
  rw [Bool.eq_iff_iff, beq_iff_eq, beq_iff_eq]; exact eq_comm
set_option maxHeartbeats 1000000 in
theorem index_any (l : List ByteArray) (s : ByteArray) (v : Value) (w : World) (hv : NamesAt w v l) :
    Calls Try.prog 39 #[v, .string s] w fun e w' =>
      (∃ j : Int, e = .returned (.int .i64 j) ∧ decide (j ≥ 0) = hasName l s) ∧ Below w.heap.size w w' := by
  obtain ⟨A, c, hA⟩ := hv.1.len
  subst hA
  have hll := hv.2
  go_enter Try.func39, Try.ntmps39
  go_wp2_with fail
  go_loopw [8] (fun i wr => ∃ k : Nat, k ≤ l.length ∧ i = .int .i64 k ∧ Sat w.heap.size w wr emp ∧ (l.take k).any (fun x => x.toList == s.toList) = false)
    (fun i _ => l.length - (intOf i).toNat)
  case atStart => exact ⟨0, Nat.zero_le _, rfl, Sat.start w, rfl⟩
  case round =>
    obtain ⟨k, hk, rfl, hS, hno⟩ := hrel
    by_cases hlt : k < l.length
    · obtain ⟨x, hxk⟩ : ∃ x, l[k]? = some x := ⟨_, List.getElem?_eq_getElem hlt⟩
      obtain ⟨a, c', hv', hcell⟩ := (hv.below hS.below).elem hxk
      cases hv'
      have hn := any_take l (fun x => x.toList == s.toList) k x hxk hno
      have hcm := beq_comm' s x
      cases hd : (x.toList == s.toList)
      · rw [hd] at hn hcm
        go_wp2_with fail
        go_roundw
        case rel => exact ⟨k + 1, by omega, by go_num, hS, hn⟩
        case measure => simp [intOf]; omega
      · rw [hd] at hn hcm
        have hany : hasName l s = true := by
          unfold hasName
          rw [List.any_eq_true] at hn ⊢
          obtain ⟨y, hy, hy'⟩ := hn
          exact ⟨y, List.mem_of_mem_take hy, hy'⟩
        go_wp2_with fail
        go_ret
        refine ⟨⟨k, rfl, ?_⟩, hS.below⟩
        rw [hany]; simp
    · obtain rfl : k = l.length := by omega
      rw [List.take_length] at hno
      go_wp2_with fail
      go_ret
      exact ⟨⟨-1, rfl, by unfold hasName; rw [hno]; rfl⟩, hS.below⟩
set_option maxHeartbeats 1000000 in
theorem contains_any (l : List ByteArray) (s : ByteArray) (v : Value) (w : World) (hv : NamesAt w v l) :
    Calls Try.prog 29 #[v, .string s] w fun e w' => e = .returned (.bool (hasName l s)) ∧ Below w.heap.size w w' := by
  go_enter Try.func29, Try.ntmps29
  go_wp2_with fail
  refine (index_any l s v w hv).mono ?_
  rintro e w' ⟨⟨j, rfl, hj⟩, hb'⟩
  go_wp2_with fail
  go_ret
  refine ⟨?_, hb'⟩
  rw [← hj]
  rfl
end Go.Proofs.Ytepaanpdjadakaa
