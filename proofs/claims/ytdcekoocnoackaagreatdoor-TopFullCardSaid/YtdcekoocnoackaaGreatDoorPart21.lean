import Derived.Test.YtdcekoocnoackaaGreatDoorPart20
import Derived.Test.YtdcekoocnoackaaGreatDoorPart15
import Derived.Test.YtdcekoocnoackaaGreatDoorPart17
import Derived.Test.YtdcekoocnoackaaGreatDoorPart06

/-! rule: next, all. -/
namespace Go.Proofs.YtdcekoocnoackaaGreatDoor
open Go Go.RowKit

set_option maxRecDepth 8000 in
theorem wrap_nil (at_ : Int) (w : World) : Calls Tryz.prog 59 #[.int .i64 at_, .nilIface] w fun e w' => e = .returned .nilIface ∧ w' = w := by
  go_enter Tryz.func59, Tryz.ntmps59
  go_wp2_with fail
  go_ret
  exact ⟨rfl, rfl⟩
def stepA (g o m : Nat) : Addr := ⟨g, if m = 1 then o else o + 4, none⟩
theorem run_tail1 {w : World} {g o n m : Nat} (hn : 0 < n) (hm : n ≤ m) :
    (Instr.sliceAt 82 (.slice (some ⟨g, o, none⟩) n m) (some (.int .i64 1)) none none).run Tryz.prog w = .ok (.slice (some (stepA g o m)) (n - 1) (m - 1)) w := by
  have hel : Tryz.prog.elem 82 = 157 := by simp [Program.elem, Tryz.underlying82]
  have ht' : Tryz.prog.underlying 82 = some (.slice (Tryz.prog.elem 82)) := by rw [hel]; exact Tryz.underlying82
  obtain ⟨i, hi, hz⟩ := Option.map_eq_some_iff.1 (show (Tryz.prog.info? 157).map (·.size) = some 4 by kernel_rfl)
  rw [run_sliceAt_slice (h := ht'), run_slice_l (ht := ht') (kl := .i64) (l := (1 : Int)) (h0 := by omega) (h1 := by omega), hel]
  simp only [sizeOf, typeInfo, Sem.run_bind, run_program, hi, Sem.run_pure, Result.andThen_ok, hz]
  unfold sliced stepA
  by_cases h : m = 1
  · subst h
    simp
  · simp [h, Addr.add_lit]
attribute [local irreducible] wpOrd
/-- A line of which i words are read. -/
def lnAt (b g c : Nat) (T : List Tok) (i fin : Nat) : HP := hex fun a : Addr => Go.Proofs.YtdcekoocnoackaaGreatDoor.lift (i < T.length → a = ⟨g, i * 4, none⟩) (blk b (.cells #[.slice (some a) (T.length - i) (c - i), .int .i64 fin] 161) • arr 157 4 (.slice (some ⟨g, 0, none⟩) T.length c) T.length (T.flatMap Tok.enc))
theorem Sat.ln_open {B : Nat} {w0 w : World} {A : HP} {b g c i fin : Nat} {T : List Tok} (h : Sat B w0 w (lnAt b g c T i fin • A)) : ∃ a : Addr, (i < T.length → a = ⟨g, i * 4, none⟩) ∧ Sat B w0 w (blk b (.cells #[.slice (some a) (T.length - i) (c - i), .int .i64 fin] 161) • arr 157 4 (.slice (some ⟨g, 0, none⟩) T.length c) T.length (T.flatMap Tok.enc) • A) := by
  unfold lnAt at h
  rw [hex_star] at h
  obtain ⟨a, ha⟩ := h.ex
  rw [lift_star, star_assoc] at ha
  exact ⟨a, ha.lift⟩
theorem Sat.ln_shut {B : Nat} {w0 w : World} {A : HP} {b g c i fin : Nat} {T : List Tok} {a : Addr} (ha : i < T.length → a = ⟨g, i * 4, none⟩) (h : Sat B w0 w (blk b (.cells #[.slice (some a) (T.length - i) (c - i), .int .i64 fin] 161) • arr 157 4 (.slice (some ⟨g, 0, none⟩) T.length c) T.length (T.flatMap Tok.enc) • A)) : Sat B w0 w (lnAt b g c T i fin • A) := by
  unfold lnAt
  rw [hex_star]
  refine Sat.ex_mk a ?_
  rw [lift_star, star_assoc]
  exact Sat.lift_mk ha h
set_option maxRecDepth 8000 in
set_option maxHeartbeats 2000000 in
theorem next_any {B : Nat} {w0 w : World} {A A' : HP} {b g c i fin : Nat} {T : List Tok} {t : Tok} {gn : Nat} {lb : Array Value} (h : Sat B w0 w (lnAt b g c T i fin • A)) (ht : T[i]? = some t) (hc : T.length ≤ c)
    (eg : ∀ args w, (callFunc gn args).run Tryz.prog w = .ok (.enter gn args) w)
    (hp : ∀ W G, Sat B w0 W (A • G) → Calls Tryz.prog gn (#[.string t.text] ++ lb) W fun e w' => e = .returned .nilIface ∧ Sat B w0 w' (A' • G)) :
    Calls Tryz.prog 245 #[.pointer (some ⟨b, 0, none⟩), .func (.func gn) #[] lb] w fun e w' => e = .returned .nilIface ∧ Sat B w0 w' (lnAt b g c T (i + 1) fin • A') := by
  have hlt := (List.getElem?_eq_some_iff.1 ht).1
  obtain ⟨a, ha, hS⟩ := h.ln_open
  rw [ha hlt] at hS
  have d0 : w.cell? ⟨b, 0, none⟩ = some (.slice (some ⟨g, i * 4, none⟩) (T.length - i) (c - i)) := cell_heap hS.heap rfl
  obtain ⟨g', hg', _, hcc⟩ := hS.pull2.arr_at Tok.enc_length rfl ht
  cases hg'
  have hld : (Instr.loadAt 157 (.pointer (some ⟨g, i * 4, none⟩))).run Tryz.prog w = .ok (.agg t.enc.toArray) w :=
    run_loadAt_cells Tryz.underlying157 rfl (by rw [Tok.enc_length]; kernel_rfl) (fun j u hu => by rw [Addr.add_lit]; exact hcc j u hu)
  have hst : ∀ z : Array Value, z.size = 4 → (Instr.storeAt 157 (.pointer (some ⟨w.heap.size, 0, none⟩)) (.agg t.enc.toArray)).run Tryz.prog (w.alloc (.cells z 157)) = .ok () (w.alloc (.cells t.enc.toArray 157)) :=
    fun z hz => run_storeAt_new (v := .agg t.enc.toArray) (by simp only [Value.cells, List.size_toArray, Tok.enc_length]; kernel_rfl) (by simp only [Value.cells, List.size_toArray, Tok.enc_length]; exact hz) (by simpa [Value.cells] using Tok.enc_one t)
  have hY := hS.alloc (.cells t.enc.toArray 157)
  obtain ⟨w5, hst5, hS5⟩ := one_storeS (o := 0) (ty := 82) (u := .slice (some (stepA g (i * 4) (c - i))) (T.length - i - 1) (c - i - 1)) hY.pull2 (by kernel_rfl) (by simp) rfl rfl
  have D1 : Hid ((w.alloc (.cells t.enc.toArray 157)).cell? ⟨b, 0, none⟩ = some (.slice (some ⟨g, i * 4, none⟩) (T.length - i) (c - i))) := Lib.hid (cell_heap hY.pull2.heap rfl)
  have htl := fun W => run_tail1 (w := W) (g := g) (o := i * 4) (n := T.length - i) (m := c - i) (by omega) (by omega)
  have e1 : w5.drew.cell? ⟨w.heap.size, 1, none⟩ = some (.int .i64 t.pos) := cell_heap hS5.drew.pull2.heap rfl
  have e3 : w5.drew.cell? ⟨w.heap.size, 3, none⟩ = some (.string t.text) := cell_heap hS5.drew.pull2.heap rfl
  have hcall := hp w5.drew _ (hS5.drew.to (by ac_rfl : _ = A • (blk b (.cells (#[Value.slice (some ⟨g, i * 4, none⟩) (T.length - i) (c - i), .int .i64 fin].setIfInBounds 0 (.slice (some (stepA g (i * 4) (c - i))) (T.length - i - 1) (c - i - 1))) 161) • blk w.heap.size (.cells t.enc.toArray 157) • arr 157 4 (.slice (some ⟨g, 0, none⟩) T.length c) T.length (T.flatMap Tok.enc))))
  have hst0 : (i + 1 < T.length → stepA g (i * 4) (c - i) = ⟨g, (i + 1) * 4, none⟩) := fun h => by unfold stepA; rw [if_neg (by omega)]; congr 1; omega
  have HST := Lib.hid hst0
  have e0 : (((T.length - i : Nat) : Int) == 0) = false := by rw [beq_eq_false_iff_ne]; omega
  have e9 : (0 : Int) < ((T.length - i : Nat) : Int) := by omega
  have HC := Lib.hid hc
  have HLT := Lib.hid hlt
  clear ha hcc hS hY hS5 hst0 h ht hp hlt hc
  generalize stepA g (i * 4) (c - i) = a2 at *
  generalize hn : T.length - i = n at *
  generalize hm : c - i = m at *
  have HY : Hid (t.enc.toArray[1]? = some (.int .i64 t.pos) ∧ t.enc.toArray[3]? = some (.string t.text)) := Lib.hid ⟨rfl, rfl⟩
  generalize t.enc.toArray = Y at *
  go_enter Tryz.func245, Tryz.ntmps245
  go_wp2_with (first | (refine wpList_load_run (t := 157) rfl rfl rfl hld ?_) | (refine wpList_store_run (t := 157) rfl rfl rfl rfl (hst _ rfl) (stop_ ?_)))
  unfold Stop
  have d1 : (w.alloc (.cells Y 157)).cell? ⟨b, 0, none⟩ = some (.slice (some ⟨g, i * 4, none⟩) n m) := D1.out
  clear hst hld d0
  generalize w.alloc (.cells Y 157) = W1 at *
  generalize w.heap.size = q at *
  go_wp2_with (refine wpList_store_run (t := 82) rfl rfl rfl rfl hst5 (stop_ ?_))
  unfold Stop
  clear hst5 d1 D1 htl
  go_wp2_with fail
  try go_frame
  refine wp_region_ord [(0, .pure), (1, .quiet), (2, .pure), (3, .pure), (4, .quiet), (5, .acts), (6, .acts), (7, .pure)] (by kernel_rfl) (by kernel_rfl)
    (fun w' => w'.cell? ⟨q, 1, none⟩ = some (.int .i64 t.pos) ∧ w'.cell? ⟨q, 3, none⟩ = some (.string t.text)) ⟨e1, e3⟩ ?_
  iterate 1 (refine ord_pure rfl rfl rfl (fun K' hK => ?_); go_big_quiet_op; refine hK _ ?_; clear hK K')
  refine ord_load (t := 3) rfl rfl rfl (p := .pointer (some ⟨q, 1, none⟩)) (v := .int .i64 t.pos) rfl (fun w' hC => load_one Tryz.underlying3 rfl hC.1) (fun K' hK => ?_)
  go_simp
  refine hK _ ?_
  clear hK K'
  iterate 2 (refine ord_pure rfl rfl rfl (fun K' hK => ?_); go_big_quiet_op; refine hK _ ?_; clear hK K')
  refine ord_load (t := 9) rfl rfl rfl (p := .pointer (some ⟨q, 3, none⟩)) (v := .string t.text) rfl (fun w' hC => load_one Tryz.underlying9 rfl hC.2) (fun K' hK => ?_)
  go_simp
  refine hK _ ?_
  clear hK K'
  refine ord_acts rfl rfl (fun K' hK => ?_)
  go_simp
  refine hcall.mono ?_
  rintro e w6 ⟨rfl, hS6⟩
  have h7 := hS6.to (by ac_rfl : _ = blk q (.cells Y 157) • blk b (.cells (#[Value.slice (some ⟨g, i * 4, none⟩) n m, .int .i64 fin].setIfInBounds 0 (.slice (some a2) (n - 1) (m - 1))) 161) • arr 157 4 (.slice (some ⟨g, 0, none⟩) T.length c) T.length (T.flatMap Tok.enc) • A')
  have f1 : w6.cell? ⟨q, 1, none⟩ = some (.int .i64 t.pos) := cell_heap h7.heap HY.out.1
  have f3 : w6.cell? ⟨q, 3, none⟩ = some (.string t.text) := cell_heap h7.heap HY.out.2
  refine hK _ _ ⟨f1, f3⟩ ?_
  clear hK K' hS6
  refine ord_acts rfl rfl (fun K' hK => ?_)
  go_simp
  refine (wrap_nil _ _).mono ?_
  rintro e w7 ⟨rfl, rfl⟩
  refine hK _ _ ⟨f1, f3⟩ ?_
  clear hK K'
  iterate 1 (refine ord_pure rfl rfl rfl (fun K' hK => ?_); go_big_quiet_op; refine hK _ ?_; clear hK K')
  refine ord_nil ?_
  go_wp2_with fail
  go_ret
  refine ⟨rfl, Sat.ln_shut HST.out (h7.drop.to ?_)⟩
  rw [show T.length - (i + 1) = n - 1 by omega, show c - (i + 1) = m - 1 by omega]
  rfl
end Go.Proofs.YtdcekoocnoackaaGreatDoor

/-! rule: all. -/
namespace Go.Proofs.YtdcekoocnoackaaGreatDoor
open Go Go.RowKit

/-- A function with what it holds. -/
def funV (x : Nat × Array Value) : Value := .func (.func x.1) #[] x.2
def funC (x : Nat × Array Value) : List Value := [funV x]
theorem funC_length (x : Nat × Array Value) : (funC x).length = 1 := rfl
set_option maxRecDepth 8000 in
set_option maxHeartbeats 2000000 in
theorem all_any {B : Nat} {w0 w : World} {A : Nat → HP} {b g c i fin : Nat} {T : List Tok} {v : Value} {gs : List (Nat × Array Value)}
    (h : Sat B w0 w (lnAt b g c T i fin • arr 349 1 v gs.length (gs.flatMap funC) • A 0)) (hi : i + gs.length = T.length) (hc : T.length ≤ c) (hl : T.length ≤ 1000)
    (eg : ∀ x ∈ gs, ∀ args w, (callFunc x.1 args).run Tryz.prog w = .ok (.enter x.1 args) w)
    (hp : ∀ k x t, gs[k]? = some x → T[i + k]? = some t → ∀ W G, Sat B w0 W (A k • G) → Calls Tryz.prog x.1 (#[.string t.text] ++ x.2) W fun e w' => e = .returned .nilIface ∧ Sat B w0 w' (A (k + 1) • G)) :
    Calls Tryz.prog 186 #[.pointer (some ⟨b, 0, none⟩), v] w fun e w' => e = .returned .nilIface ∧ Sat B w0 w' (lnAt b g c T T.length fin • arr 349 1 v gs.length (gs.flatMap funC) • A gs.length) := by
  obtain ⟨A0, c0, rfl⟩ := h.pull2.arr_form
  have HP := Lib.hid hp
  have HE := Lib.hid eg
  clear hp eg
  go_enter Tryz.func186, Tryz.ntmps186
  go_wp2_with fail
  go_loopw [6, 7, 10] (fun _ _ s wr => ∃ k : Nat, k ≤ gs.length ∧ s = .int .i64 k ∧ Sat B w0 wr (lnAt b g c T (i + k) fin • arr 349 1 (.slice A0 gs.length c0) gs.length (gs.flatMap funC) • A k)) (fun _ _ s _ => gs.length - (intOf s).toNat)
  case atStart => exact ⟨0, Nat.zero_le _, rfl, h⟩
  case round =>
    clear h
    obtain ⟨k, hk, rfl, hS⟩ := hrel
    by_cases hlt : k < gs.length
    · obtain ⟨x, hxk⟩ : ∃ x, gs[k]? = some x := ⟨_, List.getElem?_eq_getElem hlt⟩
      obtain ⟨t, htk⟩ : ∃ t, T[i + k]? = some t := ⟨_, List.getElem?_eq_getElem (by omega)⟩
      obtain ⟨ga, rfl, _, hcc⟩ := hS.pull2.arr_at funC_length rfl hxk
      have dp := hcc 0 (funV x) rfl
      rw [Nat.mul_one, Nat.add_zero] at dp
      generalize hR : arr 349 1 (.slice (some ⟨ga, 0, none⟩) gs.length c0) gs.length (gs.flatMap funC) = R at *
      have hcall := next_any (A := R • A k) (A' := R • A (k + 1)) hS htk hc (HE.out x (List.mem_of_getElem? hxk)) (fun W G hG => (HP.out k x t hxk htk W _ (hG.to (by ac_rfl : _ = A k • (R • G)))).mono (by rintro e w' ⟨rfl, hS'⟩; exact ⟨rfl, hS'.to (by ac_rfl)⟩))
      have hltz : (k : Int) < gs.length := by omega
      have HX := Lib.hid hxk
      clear hxk htk hS hcc
      unfold funV at dp
      obtain ⟨gn, lb⟩ := x
      simp only at dp hcall
      go_wp2_with fail
      refine hcall.mono ?_
      rintro e w2 ⟨rfl, hS2⟩
      go_wp2_with fail
      go_roundw
      case rel => exact ⟨k + 1, by omega, by go_num, hS2⟩
      case measure => simp [intOf]; omega
    · obtain rfl : k = gs.length := by omega
      have hltz : ¬ (gs.length : Int) < gs.length := by omega
      rw [hi] at hS
      obtain ⟨a, ha, hS3⟩ := hS.ln_open
      rw [Nat.sub_self] at hS3
      have d0 : wr.cell? ⟨b, 0, none⟩ = some (.slice (some a) 0 (c - T.length)) := cell_heap hS3.heap rfl
      have HS := Lib.hid hS
      clear hS hS3 ha HP HE hi
      go_wp2_with fail
      go_ret
      exact ⟨rfl, HS.out⟩
end Go.Proofs.YtdcekoocnoackaaGreatDoor

/-! rule.server. -/
namespace Go.Proofs.YtdcekoocnoackaaGreatDoor
open Go Go.RowKit

def srvA : List Value := [.bool false, .int .u8 9, .int .u8 9, .int .u8 9, .int .u8 9, .int .u8 0, .int .u8 0, .int .u8 0, .int .u8 0, .int .u8 0, .int .u8 0, .int .u8 0, .int .u8 0, .int .u8 0, .int .u8 0, .int .u8 0, .int .u8 0]
set_option maxRecDepth 8000 in
theorem indexA_nil (a : Array Value) (w : World) : Calls Tryz.prog 177 #[.slice none 0 0, .agg a] w fun e w' => e = .returned (.int .i64 (-1)) ∧ Below w.heap.size w w' := by
  have hB := ((Sat.start w).alloc (.cells a 36)).below
  go_enter Tryz.func177, Tryz.ntmps177
  go_wp2_with fail
  refine wp_loop_rounds 1 ?_
  rw [rounds_succ]
  go_wp2_with fail
  go_ret
  exact ⟨rfl, hB⟩
set_option maxRecDepth 8000 in
theorem containsA_nil (a : Array Value) (ha : a.size = 17) (w : World) : Calls Tryz.prog 117 #[.slice none 0 0, .agg a] w fun e w' => e = .returned (.bool false) ∧ Below w.heap.size w w' := by
  have hS := (Sat.start w).alloc (.cells a 36)
  have hB := hS.below
  have hl : (Instr.loadAt 36 (.pointer (some ⟨w.heap.size, 0, none⟩))).run Tryz.prog (w.alloc (.cells a 36)) = .ok (.agg a) (w.alloc (.cells a 36)) :=
    run_loadAt_row (cs := a.toList) hS.heap Tryz.underlying36 rfl (by rw [Array.length_toList, ha]; kernel_rfl) (fun j u hu => by simpa using hu)
  have c1 := indexA_nil a (w.alloc (.cells a 36))
  clear hS
  go_enter Tryz.func117, Tryz.ntmps117
  go_wp2_with (refine wpList_load_run (t := 36) rfl rfl rfl hl (stop_ ?_))
  unfold Stop
  go_wp2_with fail
  refine c1.mono ?_
  rintro e w2 ⟨rfl, hb⟩
  go_wp2_with fail
  go_ret
  exact ⟨rfl, hB.trans (hb.mono hB.size)⟩
set_option maxRecDepth 8000 in
theorem addr_zero : ∃ z, (Tryz.prog.info? 36).map (fun i => (i.zero, i.size, i.bytes)) = some (some z, 17, 17) ∧ (Tryz.prog.info? 36).map (fun i => (i.zero, i.size)) = some (some z, 17) ∧ z.cells.size = 17 := ⟨.agg #[.bool false, .int .u8 0, .int .u8 0, .int .u8 0, .int .u8 0, .int .u8 0, .int .u8 0, .int .u8 0, .int .u8 0, .int .u8 0, .int .u8 0, .int .u8 0, .int .u8 0, .int .u8 0, .int .u8 0, .int .u8 0, .int .u8 0], by kernel_rfl, by kernel_rfl, by kernel_rfl⟩
attribute [local irreducible] wpOrd
set_option maxRecDepth 8000 in
set_option maxHeartbeats 4000000 in
theorem server1_any {B : Nat} {w0 w : World} {F : HP} {pb r : Nat} {rv : Value} (h : Sat B w0 w (blk pb (.cells #[.pointer (some ⟨r, 0, none⟩)] 163) • blk r (.cells #[.slice none 0 0, rv] 88) • F)) (hm : Mx w) (hE : Et w) :
    Calls Tryz.prog 187 #[.string ⟨#[57, 46, 57, 46, 57, 46, 57]⟩, .pointer (some ⟨pb, 0, none⟩)] w fun e w' => e = .returned .nilIface ∧ ∃ sv', Sat B w0 w' (blk pb (.cells #[.pointer (some ⟨r, 0, none⟩)] 163) • blk r (.cells #[sv', rv] 88) • arr 36 17 sv' 1 srvA • F) := by
  have c1 := aparse_n w hm hE
  have HSV : Hid (srvA.toArray = #[.bool false, .int .u8 9, .int .u8 9, .int .u8 9, .int .u8 9, .int .u8 0, .int .u8 0, .int .u8 0, .int .u8 0, .int .u8 0, .int .u8 0, .int .u8 0, .int .u8 0, .int .u8 0, .int .u8 0, .int .u8 0, .int .u8 0]) := Lib.hid rfl
  have hSA : srvA.toArray.size = 17 := rfl
  have hone : ∀ u ∈ srvA, u.oneCell' = true := by decide
  obtain ⟨z, hz1, hz2, hz3⟩ := addr_zero
  clear hm hE
  go_enter Tryz.func187, Tryz.ntmps187
  go_wp2_with fail
  refine c1.mono ?_
  rintro e w1 ⟨rfl, hb1⟩
  rw [← HSV.out]
  have hS2 := (h.below_ hb1).alloc (.cells srvA.toArray 36)
  have hst : ∀ z : Array Value, z.size = 17 → (Instr.storeAt 36 (.pointer (some ⟨w1.heap.size, 0, none⟩)) (.agg srvA.toArray)).run Tryz.prog (w1.alloc (.cells z 36)) = .ok () (w1.alloc (.cells srvA.toArray 36)) :=
    fun z hz => run_storeAt_new (v := .agg srvA.toArray) (by kernel_rfl) (by rw [hz]; rfl) (by decide)
  have hld : ∀ W : World, W.heap[w1.heap.size]? = some (.cells srvA.toArray 36) → (Instr.loadAt 36 (.pointer (some ⟨w1.heap.size, 0, none⟩))).run Tryz.prog W = .ok (.agg srvA.toArray) W := fun W hW =>
    run_loadAt_row (cs := srvA) hW Tryz.underlying36 rfl (by kernel_rfl) (fun j u hu => by simpa using hu)
  have hrd : ∀ W : World, Reads (W.alloc (.cells srvA.toArray 36)) (.slice (some ⟨W.heap.size, 0, none⟩) 1 1) 1 srvA := fun W => reads_new (cs := srvA)
  clear h c1 hb1
  generalize hSAe : srvA.toArray = SA at *
  go_wp2_with (refine wpList_store_run (t := 36) rfl rfl rfl rfl (hst _ rfl) (stop_ ?_))
  unfold Stop
  clear hst
  go_wp2_with fail
  try go_frame
  generalize hab : w1.heap.size = ab at *
  generalize hW2 : w1.alloc (.cells SA 36) = W2 at *
  refine wp_region_ord [(0, .quiet), (1, .pure), (2, .pure), (3, .quiet), (4, .quiet), (5, .acts), (6, .pure)] (by kernel_rfl) (by kernel_rfl)
    (fun w' => Sat B w0 w' (blk ab (.cells SA 36) • blk pb (.cells #[.pointer (some ⟨r, 0, none⟩)] 163) • blk r (.cells #[.slice none 0 0, rv] 88) • F)) hS2.drew ?_
  refine ord_load (t := 163) rfl rfl rfl (p := .pointer (some ⟨pb, 0, none⟩)) (v := .pointer (some ⟨r, 0, none⟩)) rfl (fun w' hC => run_loadAt_one hC.pull2.heap Tryz.underlying163 rfl rfl) (fun K' hK => ?_)
  go_simp
  refine hK _ ?_
  clear hK K'
  iterate 2 (refine ord_pure rfl rfl rfl (fun K' hK => ?_); go_big_quiet_op; refine hK _ ?_; clear hK K')
  refine ord_load (t := 85) rfl rfl rfl (p := .pointer (some ⟨r, 0, none⟩)) (v := .slice none 0 0) rfl (fun w' hC => run_loadAt_one hC.pull3.heap Tryz.underlying85 rfl rfl) (fun K' hK => ?_)
  go_simp
  refine hK _ ?_
  clear hK K'
  refine ord_load (t := 36) rfl rfl rfl (p := .pointer (some ⟨ab, 0, none⟩)) (v := .agg SA) rfl (fun w' hC => hld _ hC.heap) (fun K' hK => ?_)
  go_simp
  refine hK _ ?_
  clear hK K'
  refine ord_acts rfl rfl (fun K' hK => ?_)
  go_simp
  refine (containsA_nil SA hSA _).mono ?_
  rintro e w3 ⟨rfl, hb3⟩
  have hS3 := hS2.drew.below_ hb3
  refine hK _ _ (hS3) ?_
  clear hK K'
  go_simp
  iterate 1 (refine ord_pure rfl rfl rfl (fun K' hK => ?_); go_big_quiet_op; refine hK _ ?_; clear hK K')
  refine ord_nil ?_
  have d0 : w3.cell? ⟨pb, 0, none⟩ = some (.pointer (some ⟨r, 0, none⟩)) := cell_heap hS3.pull2.heap rfl
  have d1 : w3.cell? ⟨r, 0, none⟩ = some (.slice none 0 0) := cell_heap hS3.pull3.heap rfl
  clear hb3 hS2
  go_wp2_with fail
  clear d0 d1
  have hS4 := hS3.drew
  have hD0 := arr_nil (e := 36) (sz := 17) (hS4.alloc (.cells SA 36))
  obtain ⟨v6, w6, hrun, hS6⟩ := hD0.append (m := 1) (news := srvA) (t := 85) (ty := 85) (P := Tryz.prog) (x := .slice (some ⟨w3.drew.heap.size, 0, none⟩) 1 1) Tryz.underlying85 hz1 hz3 (by decide) (hrd _) rfl hone (by decide) (by decide)
  obtain ⟨A6, c6, rfl⟩ := hS6.arr_form
  have hS6' := hS6.to (by ac_rfl : _ = blk r (.cells #[.slice none 0 0, rv] 88) • (arr 36 17 (.slice A6 (0 + 1) c6) (0 + 1) ([] ++ srvA) • blk w3.drew.heap.size (.cells SA 36) • blk ab (.cells SA 36) • blk pb (.cells #[.pointer (some ⟨r, 0, none⟩)] 163) • F))
  obtain ⟨W7, hst7, hS7⟩ := one_storeS (o := 0) (ty := 85) (u := .slice A6 1 c6) hS6' (by kernel_rfl) (by simp) rfl rfl
  have hD := hS4.alloc_ (.cells SA 36)
  have hE5 := hS6.drop.drop
  have hfin : Sat B w0 W7 (blk pb (.cells #[.pointer (some ⟨r, 0, none⟩)] 163) • blk r (.cells #[.slice A6 1 c6, rv] 88) • arr 36 17 (.slice A6 1 c6) 1 srvA • F) :=
    (hS7.to (by ac_rfl : _ = blk w3.drew.heap.size (.cells SA 36) • blk ab (.cells SA 36) • (blk pb (.cells #[.pointer (some ⟨r, 0, none⟩)] 163) • blk r (.cells (#[Value.slice none 0 0, rv].setIfInBounds 0 (.slice A6 1 c6)) 88) • arr 36 17 (.slice A6 (0 + 1) c6) (0 + 1) ([] ++ srvA) • F))).drop.drop
  have HF := Lib.hid hfin
  clear hfin hS7 hS6 hS6' hD0 hrd hz1 hz3 hone hS3
  try go_frame
  refine wp_region_ord [(0, .quiet), (1, .quiet), (2, .pure), (3, .pure), (4, .quiet), (5, .quiet), (6, .acts), (7, .acts), (8, .pure), (9, .pure), (10, .seals)] (by kernel_rfl) (by kernel_rfl)
    (fun w' => Sat B w0 w' (blk ab (.cells SA 36) • blk pb (.cells #[.pointer (some ⟨r, 0, none⟩)] 163) • blk r (.cells #[.slice none 0 0, rv] 88) • F)) hS4 ?_
  refine ord_load (t := 163) rfl rfl rfl (p := .pointer (some ⟨pb, 0, none⟩)) (v := .pointer (some ⟨r, 0, none⟩)) rfl (fun w' hC => run_loadAt_one hC.pull2.heap Tryz.underlying163 rfl rfl) (fun K' hK => ?_)
  go_simp
  refine hK _ ?_
  clear hK K'
  refine ord_load (t := 163) rfl rfl rfl (p := .pointer (some ⟨pb, 0, none⟩)) (v := .pointer (some ⟨r, 0, none⟩)) rfl (fun w' hC => run_loadAt_one hC.pull2.heap Tryz.underlying163 rfl rfl) (fun K' hK => ?_)
  go_simp
  refine hK _ ?_
  clear hK K'
  iterate 2 (refine ord_pure rfl rfl rfl (fun K' hK => ?_); go_big_quiet_op; refine hK _ ?_; clear hK K')
  refine ord_load (t := 85) rfl rfl rfl (p := .pointer (some ⟨r, 0, none⟩)) (v := .slice none 0 0) rfl (fun w' hC => run_loadAt_one hC.pull3.heap Tryz.underlying85 rfl rfl) (fun K' hK => ?_)
  go_simp
  refine hK _ ?_
  clear hK K'
  refine ord_load (t := 36) rfl rfl rfl (p := .pointer (some ⟨ab, 0, none⟩)) (v := .agg SA) rfl (fun w' hC => hld _ hC.heap) (fun K' hK => ?_)
  go_simp
  refine hK _ ?_
  clear hK K'
  refine ord_acts rfl rfl (fun K' hK => wp_buildSlice_one (v := .agg SA) (sz := 17) rfl rfl Tryz.underlying85 hz2 hSA (by decide) (by decide) (hK _ _ hD ?_))
  clear hK K'
  go_simp
  refine ord_acts rfl rfl (fun K' hK => wp_append_run _ _ _ rfl rfl rfl hrun (hK _ _ hE5 ?_))
  clear hK K'
  go_simp
  iterate 2 (refine ord_pure rfl rfl rfl (fun K' hK => ?_); go_big_quiet_op; refine hK _ ?_; clear hK K')
  refine ord_store rfl rfl rfl rfl (p := .pointer (some ⟨r, 0, none⟩)) (v := .slice A6 1 c6) rfl rfl hst7 (fun _ => True) trivial ?_
  refine ord_nil ?_
  go_wp2_with fail
  go_ret
  exact ⟨rfl, _, HF.out⟩
end Go.Proofs.YtdcekoocnoackaaGreatDoor
