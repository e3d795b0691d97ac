import Derived.Test.YtdcekoocnoackaaGreatDoorPart23
import Derived.Test.YtdcekoocnoackaaGreatDoorPart21
import Derived.Test.YtdcekoocnoackaaGreatDoorPart19
import Derived.Test.YtdcekoocnoackaaGreatDoorPart15

/-! rule.plain, rule.pattern at the names of the text. -/
namespace Go.Proofs.YtdcekoocnoackaaGreatDoor
open Go Go.RowKit

set_option maxRecDepth 8000 in
set_option maxHeartbeats 1000000 in
theorem plain_a (w : World) (hm : Mx w) : Calls Tryz.prog 202 #[.string ⟨#[97]⟩] w fun e w' => e = .returned (.bool true) ∧ Below w.heap.size w w' := by
  have c1 := nright_a w hm
  have c2 := fun W => Tryz.strings_Contains_one ⟨#[97]⟩ 35 W
  rw [show decide (0 ≤ Lib.indexByte (⟨#[97]⟩ : ByteArray).data.toList 35) = false by decide] at c2
  have c3 := fun W => Tryz.strings_HasPrefix ⟨#[97]⟩ ⟨#[42, 46]⟩ W
  rw [show Lib.hasPrefix (⟨#[97]⟩ : ByteArray).data.toList (⟨#[42, 46]⟩ : ByteArray).data.toList = false by decide] at c3
  clear hm
  go_enter Tryz.func202, Tryz.ntmps202
  go_wp2_with fail
  refine c1.mono ?_
  rintro e w1 ⟨rfl, hb⟩
  go_wp2_with fail
  refine (c2 _).mono ?_
  rintro e w2 ⟨rfl, rfl⟩
  go_wp2_with fail
  refine (c3 _).mono ?_
  rintro e w3 ⟨rfl, rfl⟩
  go_wp2_with fail
  go_ret
  exact ⟨rfl, hb⟩
set_option maxRecDepth 8000 in
set_option maxHeartbeats 1000000 in
theorem plain_ba (w : World) (hm : Mx w) : Calls Tryz.prog 202 #[.string ⟨#[98, 46, 97]⟩] w fun e w' => e = .returned (.bool true) ∧ Below w.heap.size w w' := by
  have c1 := nright_ba w hm
  have c2 := fun W => Tryz.strings_Contains_one ⟨#[98, 46, 97]⟩ 35 W
  rw [show decide (0 ≤ Lib.indexByte (⟨#[98, 46, 97]⟩ : ByteArray).data.toList 35) = false by decide] at c2
  have c3 := fun W => Tryz.strings_HasPrefix ⟨#[98, 46, 97]⟩ ⟨#[42, 46]⟩ W
  rw [show Lib.hasPrefix (⟨#[98, 46, 97]⟩ : ByteArray).data.toList (⟨#[42, 46]⟩ : ByteArray).data.toList = false by decide] at c3
  clear hm
  go_enter Tryz.func202, Tryz.ntmps202
  go_wp2_with fail
  refine c1.mono ?_
  rintro e w1 ⟨rfl, hb⟩
  go_wp2_with fail
  refine (c2 _).mono ?_
  rintro e w2 ⟨rfl, rfl⟩
  go_wp2_with fail
  refine (c3 _).mono ?_
  rintro e w3 ⟨rfl, rfl⟩
  go_wp2_with fail
  go_ret
  exact ⟨rfl, hb⟩
set_option maxRecDepth 8000 in
set_option maxHeartbeats 1000000 in
theorem cutPre_a (w : World) : Calls Tryz.prog 253 #[.string ⟨#[42, 46, 97]⟩, .string ⟨#[42, 46]⟩] w fun e w' => e = .returned (.tuple #[.string ⟨#[97]⟩, .bool true]) ∧ w' = w := by
  have c3 := fun W => Tryz.stringslite_HasPrefix ⟨#[42, 46, 97]⟩ ⟨#[42, 46]⟩ W
  rw [show Lib.hasPrefix (⟨#[42, 46, 97]⟩ : ByteArray).data.toList (⟨#[42, 46]⟩ : ByteArray).data.toList = true by decide] at c3
  go_enter Tryz.func253, Tryz.ntmps253
  go_wp2_with (first | (go_at_call 294; refine (c3 _).mono ?_; rintro e w1 ⟨rfl, rfl⟩) | go_in)
  go_ret2
  exact ⟨rfl, rfl⟩
set_option maxRecDepth 8000 in
set_option maxHeartbeats 1000000 in
theorem pattern_a (w : World) (hm : Mx w) : Calls Tryz.prog 192 #[.string ⟨#[42, 46, 97]⟩] w fun e w' => e = .returned (.tuple #[.string ⟨#[97]⟩, .bool true, .nilIface]) ∧ Below w.heap.size w w' := by
  have c1 := cutPre_a w
  have c2 := plain_a w hm
  clear hm
  go_enter Tryz.func192, Tryz.ntmps192
  go_wp2_with fail
  refine c1.mono ?_
  rintro e w1 ⟨rfl, rfl⟩
  go_wp2_with fail
  refine c2.mono ?_
  rintro e w2 ⟨rfl, hb⟩
  go_wp2_with fail
  go_ret3
  exact ⟨rfl, hb⟩
set_option maxRecDepth 8000 in
set_option maxHeartbeats 1000000 in
theorem cutPre_ba (w : World) : Calls Tryz.prog 253 #[.string ⟨#[98, 46, 97]⟩, .string ⟨#[42, 46]⟩] w fun e w' => e = .returned (.tuple #[.string ⟨#[98, 46, 97]⟩, .bool false]) ∧ w' = w := by
  have c3 := fun W => Tryz.stringslite_HasPrefix ⟨#[98, 46, 97]⟩ ⟨#[42, 46]⟩ W
  rw [show Lib.hasPrefix (⟨#[98, 46, 97]⟩ : ByteArray).data.toList (⟨#[42, 46]⟩ : ByteArray).data.toList = false by decide] at c3
  go_enter Tryz.func253, Tryz.ntmps253
  go_wp2_with (first | (go_at_call 294; refine (c3 _).mono ?_; rintro e w1 ⟨rfl, rfl⟩) | go_in)
  go_ret2
  exact ⟨rfl, rfl⟩
set_option maxRecDepth 8000 in
set_option maxHeartbeats 1000000 in
theorem pattern_ba (w : World) (hm : Mx w) : Calls Tryz.prog 192 #[.string ⟨#[98, 46, 97]⟩] w fun e w' => e = .returned (.tuple #[.string ⟨#[98, 46, 97]⟩, .bool false, .nilIface]) ∧ Below w.heap.size w w' := by
  have c1 := cutPre_ba w
  have c2 := plain_ba w hm
  clear hm
  go_enter Tryz.func192, Tryz.ntmps192
  go_wp2_with fail
  refine c1.mono ?_
  rintro e w1 ⟨rfl, rfl⟩
  go_wp2_with fail
  refine c2.mono ?_
  rintro e w2 ⟨rfl, hb⟩
  go_wp2_with fail
  go_ret3
  exact ⟨rfl, hb⟩
end Go.Proofs.YtdcekoocnoackaaGreatDoor

/-! rule.take. -/
namespace Go.Proofs.YtdcekoocnoackaaGreatDoor
open Go Go.RowKit

set_option maxRecDepth 8000 in
set_option maxHeartbeats 4000000 in
theorem take_allow {B : Nat} {w0 w : World} {R A' : HP} {r n fin c c1 : Nat} {A A1 : Option Addr} {T : List Tok} {t : Tok} {sv : Value}
    (h : Sat B w0 w (arr 157 4 (.slice A T.length c) T.length (T.flatMap Tok.enc) • blk r (.cells #[sv, .slice A1 n c1] 88) • R)) (ht : T[0]? = some t) (htx : t.text = ⟨#[97, 108, 108, 111, 119]⟩) (hn : n < 200)
    (hcall : ∀ (b g c : Nat) (W : World), T.length ≤ c → Sat B w0 W (lnAt b g c T 1 fin • blk r (.cells #[sv, .slice A1 n c1] 88) • R) → Calls Tryz.prog 130 #[.pointer (some ⟨r, 0, none⟩), .pointer (some ⟨b, 0, none⟩), .bool true] W fun e w' => e = .returned .nilIface ∧ Sat B w0 w' A') :
    Calls Tryz.prog 63 #[.pointer (some ⟨r, 0, none⟩), .agg #[.slice A T.length c, .int .i64 fin]] w fun e w' => e = .returned .nilIface ∧ Sat B w0 w' A' := by
  have hlt := (List.getElem?_eq_some_iff.1 ht).1
  obtain ⟨g, rfl, _, hcc⟩ := h.arr_at Tok.enc_length rfl ht
  have hcT : T.length ≤ c := by
    rcases h.arr_open with ⟨hv, _⟩ | ⟨g', cap, cur, hv, q1, _⟩
    · cases hv
    · simp only [Value.slice.injEq] at hv
      obtain ⟨_, _, rfl⟩ := hv
      exact q1
  have hS1 := h.alloc (.cells #[.slice (some ⟨g, 0, none⟩) T.length c, .int .i64 fin] 161)
  generalize hW1 : w.alloc (.cells #[.slice (some ⟨g, 0, none⟩) T.length c, .int .i64 fin] 161) = W1 at *
  generalize hb : w.heap.size = b at *
  have d0 : W1.cell? ⟨b, 0, none⟩ = some (.slice (some ⟨g, 0, none⟩) T.length c) := cell_heap hS1.heap rfl
  have hcc1 : ∀ j u, t.enc[j]? = some u → W1.cell? ⟨g, 0 + j, none⟩ = some u := by
    obtain ⟨g', hg', _, hq⟩ := hS1.pull2.arr_at Tok.enc_length rfl ht
    cases hg'
    intro j u hu
    have := hq j u hu
    rwa [Nat.zero_mul] at this
  have hld : (Instr.loadAt 157 (.pointer (some ⟨g, 0, none⟩))).run Tryz.prog W1 = .ok (.agg t.enc.toArray) W1 :=
    run_loadAt_cells Tryz.underlying157 rfl (by rw [Tok.enc_length]; kernel_rfl) (fun j u hu => by rw [Addr.add_lit]; exact hcc1 j u hu)
  have hst : ∀ z : Array Value, z.size = 4 → (Instr.storeAt 157 (.pointer (some ⟨W1.heap.size, 0, none⟩)) (.agg t.enc.toArray)).run Tryz.prog (W1.alloc (.cells z 157)) = .ok () (W1.alloc (.cells t.enc.toArray 157)) :=
    fun z hz => run_storeAt_new (v := .agg t.enc.toArray) (by simp only [Value.cells, List.size_toArray, Tok.enc_length]; kernel_rfl) (by simp only [Value.cells, List.size_toArray, Tok.enc_length]; exact hz) (by simpa [Value.cells] using Tok.enc_one t)
  have hY := hS1.alloc (.cells t.enc.toArray 157)
  have D1 : Hid ((W1.alloc (.cells t.enc.toArray 157)).cell? ⟨b, 0, none⟩ = some (.slice (some ⟨g, 0, none⟩) T.length c)) := Lib.hid (cell_heap hY.pull2.heap rfl)
  obtain ⟨w5, hst5, hS5⟩ := one_storeS (o := 0) (ty := 82) (u := .slice (some (stepA g 0 c)) (T.length - 1) (c - 1)) hY.pull2 (by kernel_rfl) (by simp) rfl rfl
  have htl := fun W => run_tail1 (w := W) (g := g) (o := 0) (n := T.length) (m := c) (by omega) hcT
  have e3 : w5.cell? ⟨W1.heap.size, 3, none⟩ = some (.string ⟨#[97, 108, 108, 111, 119]⟩) := by rw [← htx]; exact cell_heap hS5.pull2.heap rfl
  have hS6 := (hS5.to (by ac_rfl : _ = blk W1.heap.size (.cells t.enc.toArray 157) • (blk b (.cells (#[Value.slice (some ⟨g, 0, none⟩) T.length c, .int .i64 fin].setIfInBounds 0 (.slice (some (stepA g 0 c)) (T.length - 1) (c - 1))) 161) • arr 157 4 (.slice (some ⟨g, 0, none⟩) T.length c) T.length (T.flatMap Tok.enc) • (blk r (.cells #[sv, .slice A1 n c1] 88) • R)))).drop
  have hS7 : Sat B w0 w5 (lnAt b g c T 1 fin • blk r (.cells #[sv, .slice A1 n c1] 88) • R) := Sat.ln_shut (a := stepA g 0 c) (i := 1) (fun h => by unfold stepA; rw [if_neg (by omega)]) hS6
  have hfin := hcall b g c w5 hcT hS7
  have d9 : w5.cell? ⟨r, 1, none⟩ = some (.slice A1 n c1) := cell_heap hS7.pull2.heap rfl
  have e9 : (0 : Int) < (T.length : Int) := by omega
  have e8 : ¬ (200 : Int) ≤ (n : Int) := by omega
  clear hcc hcc1 hS1 hY hS5 hS6 hS7 hcall h ht htx hn hlt hcT
  generalize stepA g 0 c = a2 at *
  generalize T.length = nT at *
  generalize t.enc.toArray = Y at *
  go_enter Tryz.func63, Tryz.ntmps63
  go_wp2_with (first | (refine wpList_load_run (t := 157) rfl rfl rfl hld ?_) | (refine wpList_store_run (t := 157) rfl rfl rfl rfl (hst _ rfl) (stop_ ?_)))
  unfold Stop
  have d1 : (W1.alloc (.cells Y 157)).cell? ⟨b, 0, none⟩ = some (.slice (some ⟨g, 0, none⟩) nT c) := D1.out
  clear hst hld d0
  generalize W1.alloc (.cells Y 157) = W2 at *
  generalize W1.heap.size = q at *
  go_wp2_with (refine wpList_store_run (t := 82) rfl rfl rfl rfl hst5 (stop_ ?_))
  unfold Stop
  clear hst5 d1 D1 htl
  go_wp2_with fail
  refine hfin.mono ?_
  rintro e w6 ⟨rfl, hS8⟩
  go_wp2_with fail
  go_ret
  exact ⟨rfl, hS8⟩
set_option maxRecDepth 8000 in
set_option maxHeartbeats 4000000 in
theorem take_res {B : Nat} {w0 w : World} {R A' : HP} {r n fin c c1 : Nat} {A A1 : Option Addr} {T : List Tok} {t : Tok} {sv : Value}
    (h : Sat B w0 w (arr 157 4 (.slice A T.length c) T.length (T.flatMap Tok.enc) • blk r (.cells #[sv, .slice A1 n c1] 88) • R)) (ht : T[0]? = some t) (htx : t.text = ⟨#[114, 101, 115, 111, 108, 118, 101, 114]⟩) (hn : n < 200)
    (hcall : ∀ (b g c : Nat) (W : World), T.length ≤ c → Sat B w0 W (lnAt b g c T 1 fin • blk r (.cells #[sv, .slice A1 n c1] 88) • R) → Calls Tryz.prog 129 #[.pointer (some ⟨r, 0, none⟩), .pointer (some ⟨b, 0, none⟩)] W fun e w' => e = .returned .nilIface ∧ Sat B w0 w' A') :
    Calls Tryz.prog 63 #[.pointer (some ⟨r, 0, none⟩), .agg #[.slice A T.length c, .int .i64 fin]] w fun e w' => e = .returned .nilIface ∧ Sat B w0 w' A' := by
  have hlt := (List.getElem?_eq_some_iff.1 ht).1
  obtain ⟨g, rfl, _, hcc⟩ := h.arr_at Tok.enc_length rfl ht
  have hcT : T.length ≤ c := by
    rcases h.arr_open with ⟨hv, _⟩ | ⟨g', cap, cur, hv, q1, _⟩
    · cases hv
    · simp only [Value.slice.injEq] at hv
      obtain ⟨_, _, rfl⟩ := hv
      exact q1
  have hS1 := h.alloc (.cells #[.slice (some ⟨g, 0, none⟩) T.length c, .int .i64 fin] 161)
  generalize hW1 : w.alloc (.cells #[.slice (some ⟨g, 0, none⟩) T.length c, .int .i64 fin] 161) = W1 at *
  generalize hb : w.heap.size = b at *
  have d0 : W1.cell? ⟨b, 0, none⟩ = some (.slice (some ⟨g, 0, none⟩) T.length c) := cell_heap hS1.heap rfl
  have hcc1 : ∀ j u, t.enc[j]? = some u → W1.cell? ⟨g, 0 + j, none⟩ = some u := by
    obtain ⟨g', hg', _, hq⟩ := hS1.pull2.arr_at Tok.enc_length rfl ht
    cases hg'
    intro j u hu
    have := hq j u hu
    rwa [Nat.zero_mul] at this
  have hld : (Instr.loadAt 157 (.pointer (some ⟨g, 0, none⟩))).run Tryz.prog W1 = .ok (.agg t.enc.toArray) W1 :=
    run_loadAt_cells Tryz.underlying157 rfl (by rw [Tok.enc_length]; kernel_rfl) (fun j u hu => by rw [Addr.add_lit]; exact hcc1 j u hu)
  have hst : ∀ z : Array Value, z.size = 4 → (Instr.storeAt 157 (.pointer (some ⟨W1.heap.size, 0, none⟩)) (.agg t.enc.toArray)).run Tryz.prog (W1.alloc (.cells z 157)) = .ok () (W1.alloc (.cells t.enc.toArray 157)) :=
    fun z hz => run_storeAt_new (v := .agg t.enc.toArray) (by simp only [Value.cells, List.size_toArray, Tok.enc_length]; kernel_rfl) (by simp only [Value.cells, List.size_toArray, Tok.enc_length]; exact hz) (by simpa [Value.cells] using Tok.enc_one t)
  have hY := hS1.alloc (.cells t.enc.toArray 157)
  have D1 : Hid ((W1.alloc (.cells t.enc.toArray 157)).cell? ⟨b, 0, none⟩ = some (.slice (some ⟨g, 0, none⟩) T.length c)) := Lib.hid (cell_heap hY.pull2.heap rfl)
  obtain ⟨w5, hst5, hS5⟩ := one_storeS (o := 0) (ty := 82) (u := .slice (some (stepA g 0 c)) (T.length - 1) (c - 1)) hY.pull2 (by kernel_rfl) (by simp) rfl rfl
  have htl := fun W => run_tail1 (w := W) (g := g) (o := 0) (n := T.length) (m := c) (by omega) hcT
  have e3 : w5.cell? ⟨W1.heap.size, 3, none⟩ = some (.string ⟨#[114, 101, 115, 111, 108, 118, 101, 114]⟩) := by rw [← htx]; exact cell_heap hS5.pull2.heap rfl
  have hS6 := (hS5.to (by ac_rfl : _ = blk W1.heap.size (.cells t.enc.toArray 157) • (blk b (.cells (#[Value.slice (some ⟨g, 0, none⟩) T.length c, .int .i64 fin].setIfInBounds 0 (.slice (some (stepA g 0 c)) (T.length - 1) (c - 1))) 161) • arr 157 4 (.slice (some ⟨g, 0, none⟩) T.length c) T.length (T.flatMap Tok.enc) • (blk r (.cells #[sv, .slice A1 n c1] 88) • R)))).drop
  have hS7 : Sat B w0 w5 (lnAt b g c T 1 fin • blk r (.cells #[sv, .slice A1 n c1] 88) • R) := Sat.ln_shut (a := stepA g 0 c) (i := 1) (fun h => by unfold stepA; rw [if_neg (by omega)]) hS6
  have hfin := hcall b g c w5 hcT hS7
  have d9 : w5.cell? ⟨r, 1, none⟩ = some (.slice A1 n c1) := cell_heap hS7.pull2.heap rfl
  have e9 : (0 : Int) < (T.length : Int) := by omega
  have e8 : ¬ (200 : Int) ≤ (n : Int) := by omega
  clear hcc hcc1 hS1 hY hS5 hS6 hS7 hcall h ht htx hn hlt hcT
  generalize stepA g 0 c = a2 at *
  generalize T.length = nT at *
  generalize t.enc.toArray = Y at *
  go_enter Tryz.func63, Tryz.ntmps63
  go_wp2_with (first | (refine wpList_load_run (t := 157) rfl rfl rfl hld ?_) | (refine wpList_store_run (t := 157) rfl rfl rfl rfl (hst _ rfl) (stop_ ?_)))
  unfold Stop
  have d1 : (W1.alloc (.cells Y 157)).cell? ⟨b, 0, none⟩ = some (.slice (some ⟨g, 0, none⟩) nT c) := D1.out
  clear hst hld d0
  generalize W1.alloc (.cells Y 157) = W2 at *
  generalize W1.heap.size = q at *
  go_wp2_with (refine wpList_store_run (t := 82) rfl rfl rfl rfl hst5 (stop_ ?_))
  unfold Stop
  clear hst5 d1 D1 htl
  go_wp2_with fail
  refine hfin.mono ?_
  rintro e w6 ⟨rfl, hS8⟩
  go_wp2_with fail
  go_ret
  exact ⟨rfl, hS8⟩
end Go.Proofs.YtdcekoocnoackaaGreatDoor

/-! rule.server, rule.Parse. -/
namespace Go.Proofs.YtdcekoocnoackaaGreatDoor
open Go Go.RowKit

def srv9 : ByteArray := ⟨#[57, 46, 57, 46, 57, 46, 57]⟩
def srA (pb r : Nat) (rv : Value) (F : HP) : Nat → HP
  | 0 => blk pb (.cells #[.pointer (some ⟨r, 0, none⟩)] 163) • blk r (.cells #[.slice none 0 0, rv] 88) • F
  | _ => hex fun sv' : Value => blk pb (.cells #[.pointer (some ⟨r, 0, none⟩)] 163) • blk r (.cells #[sv', rv] 88) • arr 36 17 sv' 1 srvA • F
set_option maxRecDepth 8000 in
set_option maxHeartbeats 2000000 in
theorem server_any {B : Nat} {w0 w : World} {F : HP} {b g c fin r : Nat} {T : List Tok} {rv : Value} (hB : 1 < B) (hM : Mx w0) (hE : Et w0)
    (h : Sat B w0 w (lnAt b g c T 1 fin • blk r (.cells #[.slice none 0 0, rv] 88) • F)) (hT : (T.drop 1).map Tok.text = [⟨#[57, 46, 57, 46, 57, 46, 57]⟩]) (hc : T.length ≤ c) :
    Calls Tryz.prog 129 #[.pointer (some ⟨r, 0, none⟩), .pointer (some ⟨b, 0, none⟩)] w fun e w' => e = .returned .nilIface ∧ ∃ sv', Sat B w0 w' (blk r (.cells #[sv', rv] 88) • arr 36 17 sv' 1 srvA • F) := by
  have hTl : T.length = 2 := by
    have := congrArg List.length hT
    rw [List.length_map, List.length_drop] at this
    simp at this; omega
  have hS1 := (h.alloc (.cells #[.pointer (some ⟨r, 0, none⟩)] 163)).alloc (.cells #[.func (.func 187) #[] #[.pointer (some ⟨w.heap.size, 0, none⟩)]] 349)
  simp only [World.size_alloc] at hS1
  have hS2 := Sat.arr_shut (n := 1) (cap := 1) (sz := 1) (xs := [.func (.func 187) #[] #[.pointer (some ⟨w.heap.size, 0, none⟩)]]) (by decide) (by decide) rfl rfl hS1
  have hall := all_any (b := b) (g := g) (c := c) (i := 1) (fin := fin) (T := T) (gs := [((187 : Nat), (#[.pointer (some ⟨w.heap.size, 0, none⟩)] : Array Value))]) (A := srA w.heap.size r rv F)
    (hS2.to (by rw [srA]; ac_rfl : _ = lnAt b g c T 1 fin • arr 349 1 (.slice (some ⟨w.heap.size + 1, 0, none⟩) 1 1) 1 [.func (.func 187) #[] #[.pointer (some ⟨w.heap.size, 0, none⟩)]] • srA w.heap.size r rv F 0))
    (by simp [hTl]) hc (by omega) (by
      intro x hx
      simp only [List.mem_cons, List.not_mem_nil, or_false] at hx
      rcases hx with rfl
      exact enters_of Tryz.func187 (by kernel_rfl) rfl) (by
      intro k x t hx ht W G hG
      match k, hx with
      | 0, hx =>
        cases hx
        have htx : t.text = ⟨#[57, 46, 57, 46, 57, 46, 57]⟩ := by
          have : ((T.drop 1).map Tok.text)[0]? = some t.text := by rw [List.getElem?_map, List.getElem?_drop, ht]; rfl
          rw [hT] at this; simpa using this.symm
        rw [srA, star_assoc, star_assoc] at hG
        rw [htx]
        refine (server1_any hG (hG.mx hB hM) (hG.et (by omega) hE)).mono ?_
        rintro e w' ⟨rfl, sv', hS'⟩
        refine ⟨rfl, ?_⟩
        rw [show srA w.heap.size r rv F (0 + 1) = hex fun sv' : Value => blk w.heap.size (.cells #[.pointer (some ⟨r, 0, none⟩)] 163) • blk r (.cells #[sv', rv] 88) • arr 36 17 sv' 1 srvA • F from rfl, hex_star]
        refine Sat.ex_mk sv' ?_
        rw [star_assoc, star_assoc, star_assoc]
        exact hS'
      | (k + 1), hx => simp at hx)
  clear hS1 hS2 h
  go_enter Tryz.func129, Tryz.ntmps129
  go_wp2_with fail
  refine hall.mono ?_
  rintro e w1 ⟨rfl, hS⟩
  have hS3 := hS.drop.drop
  rw [show srA w.heap.size r rv F [((187 : Nat), (#[.pointer (some ⟨w.heap.size, 0, none⟩)] : Array Value))].length = hex fun sv' : Value => blk w.heap.size (.cells #[.pointer (some ⟨r, 0, none⟩)] 163) • blk r (.cells #[sv', rv] 88) • arr 36 17 sv' 1 srvA • F from rfl] at hS3
  obtain ⟨sv', hS4⟩ := hS3.ex
  have HF := Lib.hid hS4.drop
  clear hS hS3 hS4 hall
  go_wp2_with fail
  go_ret
  exact ⟨rfl, sv', HF.out⟩
def pol1 : List Value := [.bool true, .string ⟨#[97]⟩, .bool true, .bool false, .int .u8 0, .int .u8 0, .int .u8 0, .int .u8 0, .int .u8 0, .int .u8 0, .int .u8 0, .int .u8 0, .int .u8 0, .int .u8 0, .int .u8 0, .int .u8 0, .int .u8 0, .int .u8 0, .int .u8 0, .int .u8 0, .int .i64 0, .int .i64 17, .int .i64 1, .int .i64 9]
def pol2 : List Value := [.bool true, .string ⟨#[98, 46, 97]⟩, .bool false, .bool false, .int .u8 0, .int .u8 0, .int .u8 0, .int .u8 0, .int .u8 0, .int .u8 0, .int .u8 0, .int .u8 0, .int .u8 0, .int .u8 0, .int .u8 0, .int .u8 0, .int .u8 0, .int .u8 0, .int .u8 0, .int .u8 0, .int .i64 0, .int .i64 6, .int .i64 0, .int .i64 65535]
def pol3 : List Value := [.bool true, .string ⟨#[]⟩, .bool false, .bool false, .int .u8 10, .int .u8 0, .int .u8 0, .int .u8 0, .int .u8 0, .int .u8 0, .int .u8 0, .int .u8 0, .int .u8 0, .int .u8 0, .int .u8 0, .int .u8 0, .int .u8 0, .int .u8 0, .int .u8 0, .int .u8 0, .int .i64 8, .int .i64 256, .int .i64 0, .int .i64 65535]
end Go.Proofs.YtdcekoocnoackaaGreatDoor
