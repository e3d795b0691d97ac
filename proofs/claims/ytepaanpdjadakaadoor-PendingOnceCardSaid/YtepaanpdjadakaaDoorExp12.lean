import Derived.Test.YtepaanpdjadakaaDoorExp11
/-! The queue's Cancel, At, Next. -/
namespace Go.Proofs.YtepaanpdjadakaaDoor
open Go Go.RowKit

def nextV (S : List Ent) : Value := match minE S with
  | some m => .tuple #[.agg m.enc.toArray, .bool true]
  | none => .tuple #[.agg (Ent.enc ⟨0, 0⟩).toArray, .bool false]
section
variable {B : Nat} {w0 w w' : World} {F : HP} {p q room : Nat} {L S : List Ent}
set_option maxRecDepth 8000 in
set_option maxHeartbeats 2000000 in
theorem qCancel_any (h : Sat B w0 w (queue q room S ⋆ F)) (id : Int) : Calls Tryd.prog 27 #[.pointer (some ⟨q, 0, none⟩), .int .i64 id] w fun e w' =>
    e = .returned (errV (noneC S id)) ∧ Sat B w0 w' (queue q room (without S id) ⋆ F) := by
  obtain ⟨p, L, h1, h2, h3, h4, hS⟩ := h.queue_open
  have hhas := hasId_perm h2 id
  have e0 : errV 0 = .nilIface := rfl
  have e20 : errV 20 = .iface 44 (.int .i64 20) := rfl
  cases hid : hasId L id
  · rw [hid] at hhas
    rw [noneC_no hhas.symm, without_no hhas.symm]
    have c1 := place_no hS hid
    rw [e20] at c1
    clear hhas hid h1 h2 h3 h4 hS
    go_enter Tryd.func27, Tryd.ntmps27
    go_wp2_with fail
    refine c1.mono ?_
    rintro e w1 ⟨rfl, rfl⟩
    go_wp2_with fail
    go_ret
    exact ⟨rfl, h⟩
  · rw [hid] at hhas
    rw [noneC_yes hhas.symm]
    obtain ⟨i, hi, rfl⟩ := hasId_g hid
    have c1 := place_yes hS hi
    rw [e0] at c1
    obtain ⟨f, hf⟩ := hS.pull2.pile_idx
    have hlen := h2.length_eq
    have c2 := hRemove_any hS.pull2 hi (by omega)
    obtain ⟨k1, k2, k3⟩ := h1.remove hi
    have k4 := (without_of hf.nd k3).trans (without_perm h2 _)
    have d1 : w.cell? ⟨q, 0, none⟩ = some (.pointer (some ⟨p, 0, none⟩)) := by simp [World.cell?, hS.heap]
    have K1 := Lib.hid k1
    have K2 := Lib.hid k2
    have K4 := Lib.hid k4
    have hlw := without_length S (Hp.g L i).id
    generalize (Hp.g L i).id = id at *
    generalize Hp.remove L i = L2 at *
    clear hf hhas hid h hS k1 k2 k3 k4 hlen hi
    go_enter Tryd.func27, Tryd.ntmps27
    go_wp2_with fail
    refine c1.mono ?_
    rintro e w1 ⟨rfl, rfl⟩
    clear c1
    go_wp2_with fail
    refine c2.mono ?_
    rintro e w3 ⟨⟨x, rfl⟩, hS3⟩
    clear c2
    go_wp2_with fail
    go_ret
    exact ⟨rfl, Sat.queue_shut (by rw [K2.out]; exact K1.out) K4.out (by omega) h4 hS3.pull2⟩
theorem qCancel_nil (id : Int) (w : World) : Calls Tryd.prog 27 #[.pointer none, .int .i64 id] w fun e w' => e = .returned (errV 2) ∧ w' = w := by
  have e2 : errV 2 = .iface 44 (.int .i64 2) := rfl
  have c1 := place_nil id w
  rw [e2] at c1
  go_enter Tryd.func27, Tryd.ntmps27
  go_wp2_with fail
  refine c1.mono ?_
  rintro e w1 ⟨rfl, rfl⟩
  go_wp2_with fail
  go_ret
  exact ⟨rfl, rfl⟩
set_option maxRecDepth 8000 in
set_option maxHeartbeats 2000000 in
theorem qAt_any (h : Sat B w0 w (queue q room S ⋆ F)) (id : Int) : Calls Tryd.prog 26 #[.pointer (some ⟨q, 0, none⟩), .int .i64 id] w fun e w' =>
    e = .returned (.tuple #[.int .u64 ((dueAt S id).getD 0), .bool (dueAt S id).isSome]) ∧ w' = w := by
  obtain ⟨p, L, h1, h2, h3, h4, hS⟩ := h.queue_open
  have hhas := hasId_perm h2 id
  have e0 : errV 0 = .nilIface := rfl
  have e20 : errV 20 = .iface 44 (.int .i64 20) := rfl
  cases hid : hasId L id
  · rw [hid] at hhas
    rw [dueAt_none hhas.symm]
    have c1 := place_no hS hid
    rw [e20] at c1
    clear hhas hid h1 h2 h3 h4 hS h
    go_enter Tryd.func26, Tryd.ntmps26
    go_wp2_with fail
    refine c1.mono ?_
    rintro e w1 ⟨rfl, rfl⟩
    go_wp2_with fail
    go_ret2
    exact ⟨rfl, rfl⟩
  · obtain ⟨i, hi, rfl⟩ := hasId_g hid
    have c1 := place_yes hS hi
    rw [e0] at c1
    obtain ⟨g, cap, cur, mb, f', hf', r1, r2, r3, r4, hR⟩ := hS.pull2.pile_row (by omega)
    have hdue : dueAt S (Hp.g L i).id = some (Hp.g L i).due := by rw [← dueAt_perm hf'.nd h2]; exact dueAt_of hf'.nd (g_mem hi)
    rw [hdue]
    have hlen := h2.length_eq
    have hmx : L.length ≤ 9223372036854775807 := by omega
    have hcur := cur_at Ent.enc_length r4 (g_get hi) 1 _ rfl
    have d1 : w.cell? ⟨q, 0, none⟩ = some (.pointer (some ⟨p, 0, none⟩)) := by simp [World.cell?, hS.heap]
    have d2 : w.cell? ⟨p, 0, none⟩ = some (.slice (some ⟨g, 0, none⟩) L.length cap) := by simp [World.cell?, hR.heap]
    have d3 : w.cell? ⟨g, i * 2 + 1, none⟩ = some (.int .u64 (Hp.g L i).due) := by simp [World.cell?, hR.pull2.heap, hcur]
    generalize Hp.g L i = x at *
    clear hcur hdue hR r4 r3 hf' hhas hid h hS h1 h2
    go_enter Tryd.func26, Tryd.ntmps26
    go_wp2_with fail
    refine c1.mono ?_
    rintro e w1 ⟨rfl, rfl⟩
    clear c1
    go_wp2_with fail
    go_ret2
    exact ⟨rfl, rfl⟩
theorem qAt_nil (id : Int) (w : World) : Calls Tryd.prog 26 #[.pointer none, .int .i64 id] w fun e w' => e = .returned (.tuple #[.int .u64 0, .bool false]) ∧ w' = w := by
  have e2 : errV 2 = .iface 44 (.int .i64 2) := rfl
  have c1 := place_nil id w
  rw [e2] at c1
  go_enter Tryd.func26, Tryd.ntmps26
  go_wp2_with fail
  refine c1.mono ?_
  rintro e w1 ⟨rfl, rfl⟩
  go_wp2_with fail
  go_ret2
  exact ⟨rfl, rfl⟩
set_option maxRecDepth 8000 in
set_option maxHeartbeats 2000000 in
theorem qNext_any (h : Sat B w0 w (queue q room S ⋆ F)) : Calls Tryd.prog 25 #[.pointer (some ⟨q, 0, none⟩)] w fun e w' =>
    e = .returned (nextV S) ∧ Below w.heap.size w w' := by
  have hz : (Value.agg (Ent.enc ⟨0, 0⟩).toArray).cells = #[.int .i64 0, .int .u64 0] := rfl
  have hst := ent_store
  have hb := h.alloc_ (.cells #[.int .i64 0, .int .u64 0] 34)
  have c1 := qLen_any hb
  have hl : ∀ (x : Ent) (W : World), (Instr.loadAt 34 (.pointer (some ⟨W.heap.size, 0, none⟩))).run Tryd.prog (W.alloc (.cells x.enc.toArray 34)) = .ok (.agg x.enc.toArray) (W.alloc (.cells x.enc.toArray 34)) :=
    fun x W => run_loadAt_row (heap_alloc_new _ _) Tryd.underlying34 rfl (by rw [Ent.enc_length]; kernel_rfl) (fun j u hu => by simpa using hu)
  have hbb : ∀ o, Below w.heap.size w (w.alloc o) := fun o => (Below.refl _ _).alloc (Nat.le_refl _) o
  obtain ⟨p, L, h1, h2, h3, h4, hS⟩ := h.queue_open
  have hlen := h2.length_eq
  by_cases h0 : S.length = 0
  · have hm : nextV S = .tuple #[.agg (Ent.enc ⟨0, 0⟩).toArray, .bool false] := by
      unfold nextV; rw [minE_none.2 (List.eq_nil_of_length_eq_zero h0)]
    rw [hm]
    rw [h0] at c1
    clear hb h hm h0 hlen h1 h2 hS
    go_enter Tryd.func25, Tryd.ntmps25
    go_wp2_with fail
    refine c1.mono ?_
    rintro e w1 ⟨rfl, rfl⟩
    go_wp2_with (refine wpList_store_run (t := 34) rfl rfl rfl rfl (hst ⟨0, 0⟩ _ _ rfl) ?_)
    exact ret_cell_tmp rfl rfl rfl (hl ⟨0, 0⟩ _) rfl ⟨rfl, hbb _⟩
  · have hm : nextV S = .tuple #[.agg (Hp.g L 0).enc.toArray, .bool true] := by
      unfold nextV; rw [← minE_perm h2, minE_heap h1 (by omega)]
    rw [hm]
    have hn0 : ((S.length : Int) == 0) = false := by rw [beq_eq_false_iff_ne]; omega
    obtain ⟨p', L', k1, k2, k3, k4, hS'⟩ := hb.queue_open
    obtain ⟨g, cap, cur, mb, f', hf', r1, r2, r3, r4, hR⟩ := hS.pull2.pile_row (by omega)
    have hA : Below w.heap.size w (w.alloc (.cells #[.int .i64 0, .int .u64 0] 34)) := hbb _
    have hSa := hS.below_ hA
    have hRa := hR.below_ hA
    have d1 : (w.alloc (.cells #[.int .i64 0, .int .u64 0] 34)).cell? ⟨q, 0, none⟩ = some (.pointer (some ⟨p, 0, none⟩)) := by simp only [World.cell?, hSa.heap]; rfl
    have d2 : (w.alloc (.cells #[.int .i64 0, .int .u64 0] 34)).cell? ⟨p, 0, none⟩ = some (.slice (some ⟨g, 0, none⟩) L.length cap) := by simp only [World.cell?, hRa.heap]; rfl
    have hle := ent_load (L := L) (i := 0) hRa.pull2.heap r4 (by omega)
    rw [Nat.zero_mul] at hle
    have hl0 : 0 < L.length := by omega
    have HM := Lib.hid hm
    clear hb h h0 hlen h1 h2 hS hm hSa hRa hS' k1 k2 r4 hR hf' r3
    generalize Hp.g L 0 = x at *
    go_enter Tryd.func25, Tryd.ntmps25
    go_wp2_with fail
    refine c1.mono ?_
    rintro e w1 ⟨rfl, rfl⟩
    go_wp2_with (first | (refine wpList_load_run (t := 34) rfl rfl rfl hle ?_) | (refine wpList_store_run (t := 34) rfl rfl rfl rfl (hst x _ _ rfl) ?_))
    exact ret_cell_tmp rfl rfl rfl (hl x _) rfl ⟨rfl, hbb _⟩
set_option maxRecDepth 8000 in
theorem qNext_nil (w : World) : Calls Tryd.prog 25 #[.pointer none] w fun e w' => e = .returned (nextV []) ∧ Below w.heap.size w w' := by
  have hst := ent_store
  have hl : ∀ (x : Ent) (W : World), (Instr.loadAt 34 (.pointer (some ⟨W.heap.size, 0, none⟩))).run Tryd.prog (W.alloc (.cells x.enc.toArray 34)) = .ok (.agg x.enc.toArray) (W.alloc (.cells x.enc.toArray 34)) :=
    fun x W => run_loadAt_row (heap_alloc_new _ _) Tryd.underlying34 rfl (by rw [Ent.enc_length]; kernel_rfl) (fun j u hu => by simpa using hu)
  go_enter Tryd.func25, Tryd.ntmps25
  go_wp2_with fail
  refine (qLen_nil _).mono ?_
  rintro e w1 ⟨rfl, rfl⟩
  go_wp2_with (refine wpList_store_run (t := 34) rfl rfl rfl rfl (hst ⟨0, 0⟩ _ _ rfl) ?_)
  exact ret_cell_tmp rfl rfl rfl (hl ⟨0, 0⟩ _) rfl ⟨rfl, (Below.refl _ _).alloc (Nat.le_refl _) _⟩
end
end Go.Proofs.YtepaanpdjadakaaDoor
