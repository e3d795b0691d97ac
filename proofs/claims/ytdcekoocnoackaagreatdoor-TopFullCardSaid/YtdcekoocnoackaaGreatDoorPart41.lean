import Derived.Test.YtdcekoocnoackaaGreatDoorPart40
import Derived.Test.YtdcekoocnoackaaGreatDoorPart32
import Derived.Test.YtdcekoocnoackaaGreatDoorPart34
import Derived.Test.YtdcekoocnoackaaGreatDoorPart35
import Derived.Test.YtdcekoocnoackaaGreatDoorPart18
import Derived.Test.YtdcekoocnoackaaGreatDoorPart19

/-! Tables of one flow. -/
namespace Go.Proofs.YtdcekoocnoackaaGreatDoor
open Go Go.RowKit

def oneR (p : Nat) (q : Tup) (ph : Ph) (u : Int) : List FIt := [⟨⟨p, q, ph⟩, 0, u⟩]
section
variable {B : Nat} {w0 w w' : World} {F : HP} {t room p : Nat} {next u : Int} {q : Tup} {ph ph' : Ph} {side flags now : Int}
theorem flw_storeN (f : Flw) (W : World) (z : Array Value) (hz : z.size = 40) : (Instr.storeAt 149 (.pointer (some ⟨W.heap.size, 0, none⟩)) (.agg f.enc.toArray)).run Tryz.prog (W.alloc (.cells z 149)) = .ok () (W.alloc (.cells f.enc.toArray 149)) :=
  run_storeAt_new (v := .agg f.enc.toArray) (by simp only [Value.cells, List.size_toArray, Flw.enc_length]; kernel_rfl) (by simp only [Value.cells, List.size_toArray, Flw.enc_length]; exact hz) (by simpa [Value.cells] using f.enc_one)
end
end Go.Proofs.YtdcekoocnoackaaGreatDoor

/-! The firewall's small functions. -/
namespace Go.Proofs.YtdcekoocnoackaaGreatDoor
open Go Go.RowKit

def tuT (p : Int) : Tup := ⟨⟨false, [1, 1, 1, 1, 0, 0, 0, 0, 0, 0, 0, 0, 0, 0, 0, 0], rfl⟩, ⟨false, [10, 0, 0, 1, 0, 0, 0, 0, 0, 0, 0, 0, 0, 0, 0, 0], rfl⟩, 17, p, 6⟩
theorem tuT_enc (p : Int) : (tuT p).enc = tuC p := rfl
theorem tuT_inj {p r : Int} (h : tuT p = tuT r) : p = r := congrArg Tup.sp h
set_option maxRecDepth 8000 in
set_option maxHeartbeats 2000000 in
theorem accepted_any (c : Int) (w : World) : Calls Tryz.prog 50 #[.int .i64 c] w fun e w' => e = .returned (.agg #[.bool true, .int .i64 c]) ∧ Below w.heap.size w w' := by
  have hst : ∀ (W : World) (z : Array Value), z.size = 2 → (Instr.storeAt 47 (.pointer (some ⟨W.heap.size, 0, none⟩)) (.agg #[.bool true, .int .i64 c])).run Tryz.prog (W.alloc (.cells z 47)) = .ok () (W.alloc (.cells #[.bool true, .int .i64 c] 47)) :=
    fun W z hz => run_storeAt_new (v := .agg #[.bool true, .int .i64 c]) (by kernel_rfl) (by simp only [Value.cells]; exact hz) (by simp [Value.cells, Value.oneCell'])
  go_enter Tryz.func50, Tryz.ntmps50
  go_wp2_with (refine wpList_store_run (t := 47) rfl rfl rfl rfl (hst _ _ rfl) ?_)
  refine ret_cell rfl rfl (run_loadAt_row (cs := [.bool true, .int .i64 c]) (heap_alloc_new _ _) Tryz.underlying47 rfl (by kernel_rfl) (fun j u hu => by simpa using hu)) rfl ⟨rfl, (Below.refl _ _).alloc (Nat.le_refl _) _⟩
set_option maxRecDepth 8000 in
set_option maxHeartbeats 2000000 in
theorem refused_any (c : Int) (w : World) : Calls Tryz.prog 24 #[.int .i64 c] w fun e w' => e = .returned (.agg #[.bool false, .int .i64 c]) ∧ Below w.heap.size w w' := by
  have hst : ∀ (W : World) (z : Array Value), z.size = 2 → (Instr.storeAt 47 (.pointer (some ⟨W.heap.size, 0, none⟩)) (.agg #[.bool false, .int .i64 c])).run Tryz.prog (W.alloc (.cells z 47)) = .ok () (W.alloc (.cells #[.bool false, .int .i64 c] 47)) :=
    fun W z hz => run_storeAt_new (v := .agg #[.bool false, .int .i64 c]) (by kernel_rfl) (by simp only [Value.cells]; exact hz) (by simp [Value.cells, Value.oneCell'])
  go_enter Tryz.func24, Tryz.ntmps24
  go_wp2_with (refine wpList_store_run (t := 47) rfl rfl rfl rfl (hst _ _ rfl) ?_)
  refine ret_cell rfl rfl (run_loadAt_row (cs := [.bool false, .int .i64 c]) (heap_alloc_new _ _) Tryz.underlying47 rfl (by kernel_rfl) (fun j u hu => by simpa using hu)) rfl ⟨rfl, (Below.refl _ _).alloc (Nat.le_refl _) _⟩
set_option maxRecDepth 8000 in
set_option maxHeartbeats 2000000 in
theorem now_any (ck : Nat) (w : World) (d : w.cell? ⟨ck, 0, none⟩ = some (.int .u64 0)) : Calls Tryz.prog 157 #[.pointer (some ⟨ck, 0, none⟩)] w fun e w' => e = .returned (.int .u64 0) ∧ w' = w := by
  go_enter Tryz.func157, Tryz.ntmps157
  go_wp2_with fail
  go_ret
  exact ⟨rfl, rfl⟩
section
attribute [local irreducible] wpOrd
set_option maxRecDepth 8000 in
set_option maxHeartbeats 4000000 in
theorem server_no (fw : Nat) (p : Int) (w : World) : Calls Tryz.prog 90 #[.pointer (some ⟨fw, 0, none⟩), .agg (tuC p).toArray] w fun e w' => e = .returned (.bool false) ∧ Below w.heap.size w w' := by
  have hS := (Sat.start w).alloc (.cells (tuC p).toArray 39)
  have hB := hS.below
  have h0 := hS.heap
  have d36 : (tuC p).toArray[36]? = some (.int .i64 6) := rfl
  generalize (tuC p).toArray = TU at *
  clear hS
  go_enter Tryz.func90, Tryz.ntmps90
  go_wp2_with fail
  try go_frame
  refine wp_region_ord [(0, .pure), (1, .quiet), (2, .pure), (3, .pure), (4, .pure), (5, .quiet), (6, .pure), (7, .pure), (8, .pure), (9, .quiet), (10, .pure), (11, .pure), (12, .pure), (13, .pure), (14, .pure), (15, .pure), (16, .pure), (17, .quiet), (18, .pure), (19, .quiet), (20, .acts), (21, .pure), (22, .pure)] (by kernel_rfl) (by kernel_rfl)
    (fun w' => w'.heap[w.heap.size]? = some (.cells TU 39)) h0 ?_
  iterate 1 (refine ord_pure rfl rfl rfl (fun K' hK => ?_); go_big_quiet_op; refine hK _ ?_; clear hK K')
  refine ord_load (t := 3) rfl rfl rfl (p := .pointer (some ⟨w.heap.size, 36, none⟩)) (v := .int .i64 6) rfl (fun w' hC => run_loadAt_one hC Tryz.underlying3 rfl d36) (fun K' hK => ?_)
  go_simp
  refine hK _ ?_
  clear hK K'
  iterate 2 (refine ord_pure rfl rfl rfl (fun K' hK => ?_); go_big_quiet_op; refine hK _ ?_; clear hK K')
  iterate 8 (refine ord_skip' rfl rfl (fun K' hK => ?_); go_simp; refine hK _ ?_; clear hK K')
  iterate 2 (refine ord_pure rfl rfl rfl (fun K' hK => ?_); go_big_quiet_op; refine hK _ ?_; clear hK K')
  iterate 7 (refine ord_skip' rfl rfl (fun K' hK => ?_); go_simp; refine hK _ ?_; clear hK K')
  iterate 2 (refine ord_pure rfl rfl rfl (fun K' hK => ?_); go_big_quiet_op; refine hK _ ?_; clear hK K')
  refine ord_nil ?_
  go_wp2_with fail
  go_ret
  exact ⟨rfl, hB.drew⟩
end
section
attribute [local irreducible] wpOrd
set_option maxRecDepth 8000 in
set_option maxHeartbeats 6000000 in
theorem fmay_any {B : Nat} {w0 w : World} {F : HP} {fw pol ck pd st fc fl : Nat} {k : Int} (p : Int) (h : Sat B w0 w (blk fw (fwB pol ck pd st fc fl k) • policyH pol • F)) : Calls Tryz.prog 56 #[.pointer (some ⟨fw, 0, none⟩), .agg (tuC p).toArray] w fun e w' => e = .returned (.bool true) ∧ Sat B w0 w' (blk fw (fwB pol ck pd st fc fl k) • policyH pol • F) := by
  have hS1 := h.alloc (.cells (tuC p).toArray 39)
  have hld : ∀ W : World, W.heap[w.heap.size]? = some (.cells (tuC p).toArray 39) → (Instr.loadAt 39 (.pointer (some ⟨w.heap.size, 0, none⟩))).run Tryz.prog W = .ok (.agg (tuC p).toArray) W := fun W hW =>
    run_loadAt_row (cs := tuC p) hW Tryz.underlying39 rfl (by rw [tuC_len]; kernel_rfl) (fun j u hu => by simpa using hu)
  have hlB : ∀ W : World, W.heap[w.heap.size]? = some (.cells (tuC p).toArray 39) → (Instr.loadAt 36 (.pointer (some ⟨w.heap.size, 17, none⟩))).run Tryz.prog W = .ok (.agg adB) W := fun W hW =>
    run_loadAt_row (cs := adB.toList) hW Tryz.underlying36 rfl (by kernel_rfl) (fun j u hu => tu_B p j u hu)
  have d34 : (tuC p).toArray[34]? = some (.int .i64 17) := rfl
  have d36 : (tuC p).toArray[36]? = some (.int .i64 6) := rfl
  have cs := server_no fw p
  unfold fwB at *
  generalize (tuC p).toArray = TU at *
  generalize hq : w.heap.size = tb at *
  clear h
  go_enter Tryz.func56, Tryz.ntmps56
  go_wp2_with fail
  try go_frame
  refine wp_region_ord [(0, .pure), (1, .quiet), (2, .acts), (3, .pure), (4, .pure), (5, .pure), (6, .pure), (7, .quiet), (8, .pure), (9, .quiet), (10, .pure), (11, .quiet), (12, .pure), (13, .quiet), (14, .acts), (15, .pure)] (by kernel_rfl) (by kernel_rfl)
    (fun w' => w'.heap[tb]? = some (.cells TU 39) ∧ w'.heap[fw]? = some (.cells #[.pointer (some ⟨pol, 0, none⟩), .pointer (some ⟨ck, 0, none⟩), .pointer (some ⟨pd, 0, none⟩), .pointer (some ⟨st, 0, none⟩), .pointer (some ⟨fc, 0, none⟩), .pointer (some ⟨fl, 0, none⟩), .int .i64 1, .int .i64 1, .int .i64 1, .int .i64 k] 73)) ⟨hS1.drew.heap, hS1.drew.pull2.heap⟩ ?_
  iterate 1 (refine ord_pure rfl rfl rfl (fun K' hK => ?_); go_big_quiet_op; refine hK _ ?_; clear hK K')
  refine ord_load (t := 39) rfl rfl rfl (p := .pointer (some ⟨tb, 0, none⟩)) (v := .agg TU) rfl (fun w' hC => hld _ hC.1) (fun K' hK => ?_)
  go_simp
  refine hK _ ?_
  clear hK K'
  refine ord_acts rfl rfl (fun K' hK => ?_)
  go_simp
  refine (cs _).mono ?_
  rintro e u1 ⟨rfl, hb1⟩
  have hU1 := hS1.drew.below_ hb1
  refine hK _ _ (⟨hU1.heap, hU1.pull2.heap⟩) ?_
  clear hK K'
  go_simp
  iterate 4 (refine ord_pure rfl rfl rfl (fun K' hK => ?_); go_big_quiet_op; refine hK _ ?_; clear hK K')
  refine ord_load (t := 55) rfl rfl rfl (p := .pointer (some ⟨fw, 0, none⟩)) (v := .pointer (some ⟨pol, 0, none⟩)) rfl (fun w' hC => run_loadAt_one hC.2 Tryz.underlying55 rfl rfl) (fun K' hK => ?_)
  go_simp
  refine hK _ ?_
  clear hK K'
  iterate 1 (refine ord_pure rfl rfl rfl (fun K' hK => ?_); go_big_quiet_op; refine hK _ ?_; clear hK K')
  refine ord_load (t := 36) rfl rfl rfl (p := .pointer (some ⟨tb, 17, none⟩)) (v := .agg adB) rfl (fun w' hC => hlB _ hC.1) (fun K' hK => ?_)
  go_simp
  refine hK _ ?_
  clear hK K'
  iterate 1 (refine ord_pure rfl rfl rfl (fun K' hK => ?_); go_big_quiet_op; refine hK _ ?_; clear hK K')
  refine ord_load (t := 3) rfl rfl rfl (p := .pointer (some ⟨tb, 34, none⟩)) (v := .int .i64 17) rfl (fun w' hC => run_loadAt_one hC.1 Tryz.underlying3 rfl d34) (fun K' hK => ?_)
  go_simp
  refine hK _ ?_
  clear hK K'
  iterate 1 (refine ord_pure rfl rfl rfl (fun K' hK => ?_); go_big_quiet_op; refine hK _ ?_; clear hK K')
  refine ord_load (t := 3) rfl rfl rfl (p := .pointer (some ⟨tb, 36, none⟩)) (v := .int .i64 6) rfl (fun w' hC => run_loadAt_one hC.1 Tryz.underlying3 rfl d36) (fun K' hK => ?_)
  go_simp
  refine hK _ ?_
  clear hK K'
  refine ord_acts rfl rfl (fun K' hK => ?_)
  go_simp
  refine (net_any hU1.pull3).mono ?_
  rintro e u2 ⟨rfl, hU2⟩
  refine hK _ _ (⟨hU2.pull2.heap, hU2.pull3.heap⟩) ?_
  clear hK K'
  go_simp
  iterate 1 (refine ord_pure rfl rfl rfl (fun K' hK => ?_); go_big_quiet_op; refine hK _ ?_; clear hK K')
  refine ord_nil ?_
  clear hld hlB
  have HF := Lib.hid ((hU2.to (by ac_rfl : _ = blk tb (.cells TU 39) • (blk fw (.cells #[.pointer (some ⟨pol, 0, none⟩), .pointer (some ⟨ck, 0, none⟩), .pointer (some ⟨pd, 0, none⟩), .pointer (some ⟨st, 0, none⟩), .pointer (some ⟨fc, 0, none⟩), .pointer (some ⟨fl, 0, none⟩), .int .i64 1, .int .i64 1, .int .i64 1, .int .i64 k] 73) • policyH pol • F))).drop)
  clear hU1 hU2 hS1
  go_wp2_with fail
  go_ret
  exact ⟨rfl, HF.out⟩
end
end Go.Proofs.YtdcekoocnoackaaGreatDoor

/-! sum.Of. -/
namespace Go.Proofs.YtdcekoocnoackaaGreatDoor
open Go Go.RowKit

def stepB (g o m : Nat) : Addr := ⟨g, if m = 2 then o else o + 2, none⟩
def lenB : Value → Nat
  | .slice _ n _ => n
  | _ => 0
set_option maxRecDepth 8000 in
set_option maxHeartbeats 4000000 in
theorem sumOf_any {w : World} {g o c : Nat} {bs : List Int} (hv : Vw w g o bs) (hb : Byt8 bs) (m : Nat) (hm : bs.length = 2 * m) (hl : m ≤ 1000) (hs : wsum bs ≤ 65535) (hc : bs.length ≤ c) :
    Calls Tryz.prog 262 #[.slice (some ⟨g, o, none⟩) bs.length c] w fun e w' => e = .returned (.int .i64 (65535 - wsum bs)) ∧ w' = w := by
  have HC := Lib.hid hv
  have HB := Lib.hid hb
  have HS := Lib.hid hs
  rw [hm] at hc ⊢
  clear hv hb hs
  go_enter Tryz.func262, Tryz.ntmps262
  go_wp2_with fail
  go_loopw [0, 3] (fun bv sv wr => ∃ (k : Nat) (A : Addr), k ≤ m ∧ bv = .slice (some A) (2 * m - 2 * k) (c - 2 * k) ∧ (k < m → A = ⟨g, o + 2 * k, none⟩) ∧ sv = .int .i64 (wsum (bs.take (2 * k))) ∧ wr = w) (fun bv _ _ => lenB bv)
  case atStart => exact ⟨0, _, Nat.zero_le _, rfl, fun _ => rfl, rfl, rfl⟩
  case round =>
    obtain ⟨k, A, hk, rfl, hA, rfl, rfl⟩ := hrel
    by_cases hlt : k < m
    · obtain ⟨a, ha⟩ : ∃ a, bs[2 * k]? = some a := ⟨_, List.getElem?_eq_getElem (by omega)⟩
      obtain ⟨b, hbb⟩ : ∃ b, bs[2 * k + 1]? = some b := ⟨_, List.getElem?_eq_getElem (by omega)⟩
      have hA' := hA hlt
      subst hA'
      have d0 := HC.out _ _ ha
      have d1 : wr.cell? ⟨g, o + 2 * k + 1, none⟩ = some (.int .u8 b) := by rw [Nat.add_assoc]; exact HC.out _ _ hbb
      have ra := HB.out a (List.mem_of_getElem? ha)
      have rb := HB.out b (List.mem_of_getElem? hbb)
      have ht : wsum (bs.take (2 * (k + 1))) = wsum (bs.take (2 * k)) + (a * 256 + b) := by
        rw [← wsum_app k (bs.take (2 * k)) a b (by rw [List.length_take]; omega)]
        congr 1
        rw [show 2 * (k + 1) = 2 * k + 1 + 1 by omega, List.take_add_one, List.take_add_one, hbb, ha]; simp
      have hle := wsum_take_le (k + 1) bs (fun x hx => (HB.out x hx).1) (by omega)
      have h0 := wsum_nonneg (bs.take (2 * k)) (fun x hx => (HB.out x (List.mem_of_mem_take hx)).1)
      have hS := HS.out
      have HT := Lib.hid ht
      have hv2 : wsum (bs.take (2 * k)) + (a * 256 + b) ≤ 65535 := by omega
      generalize wsum (bs.take (2 * k)) = v0 at *
      obtain ⟨ra1, ra2⟩ := ra
      obtain ⟨rb1, rb2⟩ := rb
      have HA : Hid (k + 1 < m → stepB g (o + 2 * k) (c - 2 * k) = ⟨g, o + 2 * (k + 1), none⟩) := Lib.hid (fun h => by unfold stepB; rw [if_neg (by omega)]; congr 1)
      have HN : Hid (2 * m - 2 * k - 2 = 2 * m - 2 * (k + 1) ∧ c - 2 * k - 2 = c - 2 * (k + 1) ∧ 2 * m - 2 * (k + 1) < 2 * m - 2 * k) := Lib.hid ⟨by omega, by omega, by omega⟩
      have e1 : (0 : Int) < ((2 * m - 2 * k : Nat) : Int) := by omega
      have e2 : (1 : Int) < ((2 * m - 2 * k : Nat) : Int) := by omega
      have e3 : (2 : Int) ≤ ((2 * m - 2 * k : Nat) : Int) := by omega
      have e4 : (((2 * m - 2 * k : Nat) : Int) == 1) = false := by rw [beq_eq_false_iff_ne]; omega
      clear ha hbb ht hle hS hA
      generalize hn' : 2 * m - 2 * k = n' at *
      generalize hc' : c - 2 * k = c' at *
      generalize o + 2 * k = q at *
      go_wp2_with fail
      go_roundw
      case rel =>
        have hmin : (min 2 (n' : Int)).toNat = 2 := by omega
        refine ⟨k + 1, stepB g q c', by omega, ?_, HA.out, by rw [HT.out]; congr 1; omega, trivial⟩
        rw [hmin, HN.out.1, HN.out.2.1]
        unfold stepB
        by_cases hq : c' = 2
        · rw [if_pos hq, if_pos hq]
        · rw [if_neg hq, if_neg hq]
      case measure =>
        have h2 := HN.out.2.2
        have h1 := HN.out.1
        have hmin : (min 2 (n' : Int)).toNat = 2 := by omega
        simp only [lenB]
        omega
    · obtain rfl : k = m := by omega
      have e1 : ¬ (0 : Int) < ((2 * k - 2 * k : Nat) : Int) := by omega
      have hS := HS.out
      have h0 := wsum_nonneg bs (fun x hx => (HB.out x hx).1)
      rw [List.take_of_length_le (by omega)]
      clear HC HB hA
      rw [Nat.sub_self] at *
      go_wp2_with fail
      refine wp_loop_rounds 1 ?_
      rw [rounds_succ]
      go_wp2_with fail
      go_ret
      exact ⟨rfl, rfl⟩
end Go.Proofs.YtdcekoocnoackaaGreatDoor

/-! octets.put, Put16; sum.Over. -/
namespace Go.Proofs.YtdcekoocnoackaaGreatDoor
open Go Go.RowKit

theorem byv_get {bs : List Int} {j : Nat} {u : Int} (h : bs[j]? = some u) : (byv bs).toArray[j]? = some (.int .u8 u) := by
  rw [List.getElem?_toArray]; simp only [byv, List.getElem?_map, h, Option.map_some]
attribute [local irreducible] wpOrd
set_option maxRecDepth 8000 in
set_option maxHeartbeats 2000000 in
theorem oput_any {B : Nat} {w0 w : World} {F : HP} {g1 o1 c1 g2 o2 c2 : Nat} {b1 b2 : List Int} (h : Sat B w0 w F) (hv1 : Shows B w0 F g1 o1 b1) (hv2 : Shows B w0 F g2 o2 b2) (h1 : 0 < b1.length + b2.length) (h2 : b1.length + b2.length ≤ 2000) :
    Calls Tryz.prog 323 #[.slice (some ⟨g1, o1, none⟩) b1.length c1, .slice (some ⟨g2, o2, none⟩) b2.length c2] w fun e w' => ∃ v', e = .returned v' ∧ Sat B w0 w' (byt v' (b1 ++ b2) • F) := by
  have c := concat2_any (h.alloc (.cells #[.slice (some ⟨g1, o1, none⟩) b1.length c1, .slice (some ⟨g2, o2, none⟩) b2.length c2] 32)) (fun W hW => ⟨cell_heap hW.heap rfl, cell_heap hW.heap rfl⟩) hv1.more hv2.more h1 h2
  clear h hv1 hv2
  generalize b1.length = n1 at *
  generalize b2.length = n2 at *
  go_enter Tryz.func323, Tryz.ntmps323
  go_wp2_with fail
  refine c.mono ?_
  rintro e w1 ⟨v', rfl, hS⟩
  have HF := Lib.hid hS.pull2.drop
  clear c hS
  go_wp2_with fail
  go_ret
  exact ⟨v', rfl, HF.out⟩
set_option maxRecDepth 8000 in
set_option maxHeartbeats 2000000 in
theorem put16_any {B : Nat} {w0 w : World} {F : HP} {g1 c1 : Nat} {b1 : List Int} (x : Int) (x1 : 0 ≤ x) (x2 : x < 65536) (h1 : 0 < b1.length) (h2 : b1.length ≤ 1000) (h : Sat B w0 w (byt (.slice (some ⟨g1, 0, none⟩) b1.length c1) b1 • F)) :
    Calls Tryz.prog 299 #[.slice (some ⟨g1, 0, none⟩) b1.length c1, .int .i64 x] w fun e w' => ∃ v', e = .returned v' ∧ Sat B w0 w' (byt v' (b1 ++ [x / 256, x % 256]) • F) := by
  have hZ := h.alloc (.cells (byv [x / 256, x % 256]).toArray 5)
  have c := oput_any (b1 := b1) (b2 := [x / 256, x % 256]) (g1 := g1) (o1 := 0) (c1 := c1) (g2 := w.heap.size) (o2 := 0) (c2 := 2) hZ (byt_shows h1).more (blk_shows (fun j u hu => by rw [Nat.zero_add]; exact byv_get hu)) (by simp) (by simp; omega)
  clear h hZ h1 h2
  generalize b1.length = n1 at *
  go_enter Tryz.func299, Tryz.ntmps299
  go_wp2_with fail
  refine c.mono ?_
  rintro e w1 ⟨v', rfl, hS⟩
  have HF := Lib.hid hS.pull2.drop.pull2.drop
  clear c hS
  go_wp2_with fail
  go_ret
  exact ⟨v', rfl, HF.out⟩
set_option maxRecDepth 8000 in
set_option maxHeartbeats 8000000 in
theorem pover_any {B : Nat} {w0 w : World} {F : HP} {gb ob cb : Nat} {bs : List Int} (hb : Byt8 bs) (hlen : bs.length = 8) (hs : 3100 + wsum bs ≤ 65535) (h : Sat B w0 w F) (hsh : Shows B w0 F gb ob bs) :
    Calls Tryz.prog 264 #[.agg adA, .agg adB, .int .i64 17, .slice (some ⟨gb, ob, none⟩) 8 cb] w fun e w' => e = .returned (.int .i64 (65535 - (3100 + wsum bs))) ∧ Sat B w0 w' F := by
  have hS2 := (h.alloc (.cells adA 36)).alloc (.cells adB 36)
  rw [World.size_alloc] at hS2
  have u8_zero : (Tryz.prog.info? 5).map (fun i => (i.zero, i.size)) = some (some (.int .u8 0), 1) := by kernel_rfl
  have sl_zero : (Tryz.prog.info? 32).map (fun i => (i.zero, i.size)) = some (some (.slice none 0 0), 1) := by kernel_rfl
  have hA4 : ∀ (j : Nat) (u : Int), ([1, 1, 1, 1] : List Int)[j]? = some u → adA[1 + j]? = some (.int .u8 u) := fun j u hu => by
    match j, hu with
    | 0, hu => cases hu; rfl
    | 1, hu => cases hu; rfl
    | 2, hu => cases hu; rfl
    | 3, hu => cases hu; rfl
    | (j + 4), hu => simp at hu
  have hB4 : ∀ (j : Nat) (u : Int), ([10, 0, 0, 1] : List Int)[j]? = some u → adB[1 + j]? = some (.int .u8 u) := fun j u hu => by
    match j, hu with
    | 0, hu => cases hu; rfl
    | 1, hu => cases hu; rfl
    | 2, hu => cases hu; rfl
    | 3, hu => cases hu; rfl
    | (j + 4), hu => simp at hu
  have hof : ∀ (ga da : Nat) (_ : (((([1, 1, 1, 1] ++ [10, 0, 0, 1]) ++ [0, 17]) ++ [8 / 256, 8 % 256]) ++ bs : List Int).length ≤ da) {W : World} (_ : Vw W ga 0 (((([1, 1, 1, 1] ++ [10, 0, 0, 1]) ++ [0, 17]) ++ [8 / 256, 8 % 256]) ++ bs)), Calls Tryz.prog 262 #[.slice (some ⟨ga, 0, none⟩) 20 da] W fun e w' => e = .returned (.int .i64 (65535 - (3100 + wsum bs))) ∧ w' = W := by
    intro ga da hda W hV
    have h12 : (((([1, 1, 1, 1] ++ [10, 0, 0, 1]) ++ [0, 17]) ++ [8 / 256, 8 % 256]) ++ bs : List Int) = [1, 1, 1, 1, 10, 0, 0, 1, 0, 17, 0, 8] ++ bs := rfl
    rw [h12] at hV hda
    have hw : wsum ([1, 1, 1, 1, 10, 0, 0, 1, 0, 17, 0, 8] ++ bs) = 3100 + wsum bs := by simp only [List.cons_append, List.nil_append, wsum]; omega
    rw [← hw]
    have hL : ([1, 1, 1, 1, 10, 0, 0, 1, 0, 17, 0, 8] ++ bs).length = 20 := by simp [hlen]
    have hfin := sumOf_any (c := da) hV ?_ 10 (by rw [hL]) (by decide) (by rw [hw]; exact hs) hda
    · rw [hL] at hfin; exact hfin
    intro x hx
    rcases List.mem_append.1 hx with hx | hx
    · simp only [List.mem_cons, List.not_mem_nil, or_false] at hx
      rcases hx with rfl | rfl | rfl | rfl | rfl | rfl | rfl | rfl | rfl | rfl | rfl | rfl <;> decide
    · exact hb x hx
  have d0 : ((w.alloc (.cells adA 36)).alloc (.cells adB 36)).cell? ⟨w.heap.size, 0, none⟩ = some (.bool false) := cell_heap hS2.pull2.heap rfl
  generalize hq1 : w.heap.size = q1 at *
  generalize hq2 : q1 + 1 = q2 at *
  generalize adA = SA at *
  generalize adB = SB at *
  generalize hWW : (w.alloc (.cells SA 36)).alloc (.cells SB 36) = W at *
  clear h
  go_enter Tryz.func264, Tryz.ntmps264
  go_wp2_with fail
  try go_frame
  refine wp_region_ord [(0, .pure), (1, .pure), (2, .pure), (3, .pure), (4, .pure), (8, .pure), (9, .pure), (11, .pure), (5, .acts), (6, .acts), (7, .acts), (10, .acts), (12, .acts), (13, .acts), (14, .acts), (15, .pure)] (by kernel_rfl) (by kernel_rfl)
    (fun _ => True) trivial ?_
  iterate 8 (refine ord_pure rfl rfl rfl (fun K' hK => ?_); go_big_quiet_op; refine hK _ ?_; clear hK K')
  have hX5 := hS2.drew.alloc (.cells (byv [0, 17]).toArray 5)
  refine ord_acts rfl rfl (fun K' hK => wp_buildSlice_row (t := 32) rfl [.int .u8 0, .int .u8 17] rfl (by simp [Act.eval]) Tryz.underlying32 u8_zero (by simp [Value.cells]) (by decide) (by decide) (hK _ _ trivial ?_))
  clear hK K'
  go_simp
  have hX6 := hX5.alloc (.cells #[.slice (some ⟨q1, 1, none⟩) 4 16, .slice (some ⟨q2, 1, none⟩) 4 16, .slice (some ⟨W.heap.size, 0, none⟩) 2 2] 32)
  rw [World.size_alloc] at hX6
  replace hX6 : Sat B w0 (((W.alloc (.cells #[.int .u8 0, .int .u8 17] 5)).alloc (.cells #[.slice (some ⟨q1, 1, none⟩) 4 16, .slice (some ⟨q2, 1, none⟩) 4 16, .slice (some ⟨W.heap.size, 0, none⟩) 2 2] 32)).drew) (blk (W.heap.size + 1) (.cells #[.slice (some ⟨q1, 1, none⟩) 4 16, .slice (some ⟨q2, 1, none⟩) 4 16, .slice (some ⟨W.heap.size, 0, none⟩) 2 2] 32) • blk W.heap.size (.cells (byv [0, 17]).toArray 5) • blk q2 (.cells SB 36) • blk q1 (.cells SA 36) • F) := hX6
  refine ord_acts rfl rfl (fun K' hK => wp_buildSlice_row (t := 318) rfl [.slice (some ⟨q1, 1, none⟩) 4 16, .slice (some ⟨q2, 1, none⟩) 4 16, .slice (some ⟨W.heap.size, 0, none⟩) 2 2] rfl (by simp [Act.eval]) Tryz.underlying318 sl_zero (by simp [Value.cells]) (by decide) (by decide) (hK _ _ trivial ?_))
  clear hK K'
  go_simp
  refine ord_acts rfl rfl (fun K' hK => ?_)
  go_simp
  refine (concat3_any (b1 := [1, 1, 1, 1]) (b2 := [10, 0, 0, 1]) (b3 := [0, 17]) hX6 (fun W hW => ⟨cell_heap hW.heap rfl, cell_heap hW.heap rfl, cell_heap hW.heap rfl⟩) (blk_shows hA4).more.more.more (blk_shows hB4).more.more (blk_shows (fun j u hu => by rw [Nat.zero_add]; exact byv_get hu)).more (by decide) (by decide)).mono ?_
  rintro e u7 ⟨x7, rfl, hX7⟩
  obtain ⟨g7, d7, rfl, _, _⟩ := hX7.bytVw (by decide)
  refine hK _ _ (trivial) ?_
  clear hK K'
  go_simp
  refine ord_acts rfl rfl (fun K' hK => ?_)
  go_simp
  refine (put16_any (b1 := ([1, 1, 1, 1] ++ [10, 0, 0, 1]) ++ [0, 17]) 8 (by decide) (by decide) (by decide) (by decide) hX7).mono ?_
  rintro e u8 ⟨x8, rfl, hX8⟩
  obtain ⟨g8, d8, rfl, _, _⟩ := hX8.bytVw (by decide)
  refine hK _ _ (trivial) ?_
  clear hK K'
  go_simp
  have hX9 := hX8.alloc (.cells #[.slice (some ⟨g8, 0, none⟩) 12 d8, .slice (some ⟨gb, ob, none⟩) 8 cb] 32)
  refine ord_acts rfl rfl (fun K' hK => wp_buildSlice_row (t := 318) rfl [.slice (some ⟨g8, 0, none⟩) 12 d8, .slice (some ⟨gb, ob, none⟩) 8 cb] rfl (by simp [Act.eval]) Tryz.underlying318 sl_zero (by simp [Value.cells]) (by decide) (by decide) (hK _ _ trivial ?_))
  clear hK K'
  go_simp
  refine ord_acts rfl rfl (fun K' hK => ?_)
  go_simp
  refine (concat2_any (hh := u8.heap.size) (g1 := g8) (o1 := 0) (c1 := d8) (g2 := gb) (o2 := ob) (c2 := cb) (b1 := (([1, 1, 1, 1] ++ [10, 0, 0, 1]) ++ [0, 17]) ++ [8 / 256, 8 % 256]) (b2 := bs) hX9 (fun W hW => ⟨cell_heap hW.heap rfl, by rw [hlen]; exact cell_heap hW.heap rfl⟩) (byt_shows (by decide)).more hsh.more.more.more.more.more.more (by rw [hlen]; decide) (by rw [hlen]; decide)).mono ?_
  rintro e u10 ⟨x10, rfl, hX10⟩
  obtain ⟨ga, da, rfl, hda, hVa⟩ := hX10.bytVw (by simp)
  refine hK _ _ (trivial) ?_
  clear hK K'
  go_simp
  refine ord_acts rfl rfl (fun K' hK => ?_)
  go_simp
  refine (hof ga da hda hVa).mono ?_
  rintro e u11 ⟨rfl, rfl⟩
  refine hK _ _ (trivial) ?_
  clear hK K'
  go_simp
  iterate 1 (refine ord_pure rfl rfl rfl (fun K' hK => ?_); go_big_quiet_op; refine hK _ ?_; clear hK K')
  refine ord_nil ?_
  have HF := Lib.hid hX10.drop.drop.drop.drop.drop.drop.drop
  clear hX5 hX6 hX7 hX8 hX9 hX10 hS2 hof hVa hda
  go_wp2_with fail
  go_ret
  exact ⟨rfl, HF.out⟩
end Go.Proofs.YtdcekoocnoackaaGreatDoor
