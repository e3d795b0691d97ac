import Derived.Test.YtdcekoocnoackaaGreatDoorPart22
import Derived.Test.YtdcekoocnoackaaGreatDoorPart21
import Derived.Test.YtdcekoocnoackaaGreatDoorPart17
import Derived.Test.YtdcekoocnoackaaGreatDoorPart06
import Derived.Test.YtdcekoocnoackaaGreatDoorPart09
import Derived.Deep.Cut
import Derived.Test.YtdcekoocnoackaaGreatDoorPart15
import Derived.Test.YtdcekoocnoackaaGreatDoorPart02
import Derived.Test.YtdcekoocnoackaaGreatDoorPart14
import Derived.Test.YtdcekoocnoackaaGreatDoorPart13

/-! rule.rule. -/
namespace Go.Proofs.YtdcekoocnoackaaGreatDoor
open Go Go.RowKit

def ruleZ : List Value := [.bool false, .string ⟨#[]⟩, .bool false, .bool false, .int .u8 0, .int .u8 0, .int .u8 0, .int .u8 0, .int .u8 0, .int .u8 0, .int .u8 0, .int .u8 0, .int .u8 0, .int .u8 0, .int .u8 0, .int .u8 0, .int .u8 0, .int .u8 0, .int .u8 0, .int .u8 0, .int .i64 0, .int .i64 0, .int .i64 0, .int .i64 0]
def ruleB : Array Value := #[.bool true, .string ⟨#[]⟩, .bool false, .bool false, .int .u8 0, .int .u8 0, .int .u8 0, .int .u8 0, .int .u8 0, .int .u8 0, .int .u8 0, .int .u8 0, .int .u8 0, .int .u8 0, .int .u8 0, .int .u8 0, .int .u8 0, .int .u8 0, .int .u8 0, .int .u8 0, .int .i64 0, .int .i64 0, .int .i64 0, .int .i64 0]
theorem rule_zero : ∃ z, (Tryz.prog.info? 170).map (fun i => (i.zero, i.size, i.bytes)) = some (some z, 24, 88) ∧ (Tryz.prog.info? 170).map (fun i => (i.zero, i.size)) = some (some z, 24) ∧ z.cells.size = 24 := ⟨.agg ruleZ.toArray, by kernel_rfl, by kernel_rfl, by kernel_rfl⟩
/-- What the words of a rule's line turn. -/
def ruA (nb rb : Nat) (net : Bool) (c2 c3 c4 : Array Value) (R : HP) : Nat → HP
  | 0 => blk nb (.cells #[.bool false] 4) • blk rb (.cells ruleB 170) • R
  | 1 => blk nb (.cells #[.bool net] 4) • blk rb (.cells ruleB 170) • R
  | 2 => blk nb (.cells #[.bool net] 4) • blk rb (.cells c2 170) • R
  | 3 => blk nb (.cells #[.bool net] 4) • blk rb (.cells c3 170) • R
  | _ => blk nb (.cells #[.bool net] 4) • blk rb (.cells c4 170) • R
attribute [local irreducible] wpOrd
def ruleFs (nb rb : Nat) : List Value := [.func (.func 189) #[] #[.pointer (some ⟨nb, 0, none⟩)], .func (.func 190) #[] #[.pointer (some ⟨nb, 0, none⟩), .pointer (some ⟨rb, 0, none⟩)], .func (.func 193) #[] #[.pointer (some ⟨rb, 0, none⟩)], .func (.func 195) #[] #[.pointer (some ⟨rb, 0, none⟩)]]
theorem rule_gs (nb rb : Nat) : [((189 : Nat), (#[.pointer (some ⟨nb, 0, none⟩)] : Array Value)), (190, #[.pointer (some ⟨nb, 0, none⟩), .pointer (some ⟨rb, 0, none⟩)]), (193, #[.pointer (some ⟨rb, 0, none⟩)]), (195, #[.pointer (some ⟨rb, 0, none⟩)])].flatMap funC = ruleFs nb rb := by rw [ruleFs]; rfl
set_option maxRecDepth 8000 in
set_option maxHeartbeats 2000000 in
theorem rule_all {B : Nat} {w0 w : World} {T : List Tok} {s1 s2 s3 s4 : ByteArray} {net : Bool} {c2 c3 c4 : Array Value} {R : HP} {b g c fin fb nb rb : Nat} (hT : (T.drop 1).map Tok.text = [s1, s2, s3, s4]) (hc : T.length ≤ c)
    (h1 : ∀ (nb : Nat) W G, Sat B w0 W (blk nb (.cells #[.bool false] 4) • G) → Calls Tryz.prog 189 #[.string s1, .pointer (some ⟨nb, 0, none⟩)] W fun e w' => e = .returned .nilIface ∧ Sat B w0 w' (blk nb (.cells #[.bool net] 4) • G))
    (h2 : ∀ (nb rb : Nat) W G, Sat B w0 W (blk nb (.cells #[.bool net] 4) • blk rb (.cells ruleB 170) • G) → Calls Tryz.prog 190 #[.string s2, .pointer (some ⟨nb, 0, none⟩), .pointer (some ⟨rb, 0, none⟩)] W fun e w' => e = .returned .nilIface ∧ Sat B w0 w' (blk nb (.cells #[.bool net] 4) • blk rb (.cells c2 170) • G))
    (h3 : ∀ (rb : Nat) W G, Sat B w0 W (blk rb (.cells c2 170) • G) → Calls Tryz.prog 193 #[.string s3, .pointer (some ⟨rb, 0, none⟩)] W fun e w' => e = .returned .nilIface ∧ Sat B w0 w' (blk rb (.cells c3 170) • G))
    (h4 : ∀ (rb : Nat) W G, Sat B w0 W (blk rb (.cells c3 170) • G) → Calls Tryz.prog 195 #[.string s4, .pointer (some ⟨rb, 0, none⟩)] W fun e w' => e = .returned .nilIface ∧ Sat B w0 w' (blk rb (.cells c4 170) • G))
    (hS : Sat B w0 w (lnAt b g c T 1 fin • arr 349 1 (.slice (some ⟨fb, 0, none⟩) 4 4) 4 (ruleFs nb rb) • ruA nb rb net c2 c3 c4 R 0)) :
    Calls Tryz.prog 186 #[.pointer (some ⟨b, 0, none⟩), .slice (some ⟨fb, 0, none⟩) 4 4] w fun e w' => e = .returned .nilIface ∧ Sat B w0 w' (ruA nb rb net c2 c3 c4 R 4) := by
  have hTl : T.length = 5 := by
    have := congrArg List.length hT
    rw [List.length_map, List.length_drop] at this
    simp at this; omega
  have hg : ∀ k t, T[1 + k]? = some t → [s1, s2, s3, s4][k]? = some t.text := by
    intro k t ht
    rw [← hT, List.getElem?_map, List.getElem?_drop, ht]; rfl
  rw [← rule_gs] at hS
  refine (all_any (gs := [((189 : Nat), (#[.pointer (some ⟨nb, 0, none⟩)] : Array Value)), (190, #[.pointer (some ⟨nb, 0, none⟩), .pointer (some ⟨rb, 0, none⟩)]), (193, #[.pointer (some ⟨rb, 0, none⟩)]), (195, #[.pointer (some ⟨rb, 0, none⟩)])]) (A := ruA nb rb net c2 c3 c4 R) hS (by simp [hTl]) hc (by omega) ?_ ?_).mono ?_
  · intro x hx
    simp only [List.mem_cons, List.not_mem_nil, or_false] at hx
    rcases hx with rfl | rfl | rfl | rfl
    · exact enters_of Tryz.func189 (by kernel_rfl) rfl
    · exact enters_of Tryz.func190 (by kernel_rfl) rfl
    · exact enters_of Tryz.func193 (by kernel_rfl) rfl
    · exact enters_of Tryz.func195 (by kernel_rfl) rfl
  · intro k x t hx ht W G hG
    have htx := hg k t ht
    match k, hx with
    | 0, hx =>
      cases hx; obtain rfl : s1 = t.text := by simpa using htx
      rw [ruA, star_assoc, star_assoc] at hG
      refine (h1 nb W _ hG).mono ?_
      rintro e w' ⟨rfl, hS'⟩
      rw [ruA, star_assoc, star_assoc]; exact ⟨rfl, hS'⟩
    | 1, hx =>
      cases hx; obtain rfl : s2 = t.text := by simpa using htx
      rw [ruA, star_assoc, star_assoc] at hG
      refine (h2 nb rb W _ hG).mono ?_
      rintro e w' ⟨rfl, hS'⟩
      rw [ruA, star_assoc, star_assoc]; exact ⟨rfl, hS'⟩
    | 2, hx =>
      cases hx; obtain rfl : s3 = t.text := by simpa using htx
      rw [ruA, star_assoc, star_assoc] at hG
      refine (h3 rb W _ hG.pull2).mono ?_
      rintro e w' ⟨rfl, hS'⟩
      rw [ruA, star_assoc, star_assoc]; exact ⟨rfl, hS'.pull2⟩
    | 3, hx =>
      cases hx; obtain rfl : s4 = t.text := by simpa using htx
      rw [ruA, star_assoc, star_assoc] at hG
      refine (h4 rb W _ hG.pull2).mono ?_
      rintro e w' ⟨rfl, hS'⟩
      rw [show ruA nb rb net c2 c3 c4 R (3 + 1) = blk nb (.cells #[.bool net] 4) • blk rb (.cells c4 170) • R from rfl, star_assoc, star_assoc]; exact ⟨rfl, hS'.pull2⟩
    | (k + 4), hx => simp at hx
  · rintro e w' ⟨rfl, hS'⟩
    exact ⟨rfl, hS'.drop.drop⟩
set_option maxRecDepth 8000 in
set_option maxHeartbeats 4000000 in
theorem rule_any {B : Nat} {w0 w : World} {T : List Tok} {s1 s2 s3 s4 : ByteArray} {net : Bool} {c2 c3 c4 : Array Value} {F : HP} {b g c fin r n : Nat} {sv rv : Value} {rs : List Value}
    (h : Sat B w0 w (lnAt b g c T 1 fin • blk r (.cells #[sv, rv] 88) • arr 170 24 rv n rs • F)) (hn : n ≤ 200) (hc4 : c4.size = 24) (ho4 : ∀ u ∈ c4.toList, u.oneCell' = true) (hT : (T.drop 1).map Tok.text = [s1, s2, s3, s4]) (hc : T.length ≤ c)
    (h1 : ∀ (nb : Nat) W G, Sat B w0 W (blk nb (.cells #[.bool false] 4) • G) → Calls Tryz.prog 189 #[.string s1, .pointer (some ⟨nb, 0, none⟩)] W fun e w' => e = .returned .nilIface ∧ Sat B w0 w' (blk nb (.cells #[.bool net] 4) • G))
    (h2 : ∀ (nb rb : Nat) W G, Sat B w0 W (blk nb (.cells #[.bool net] 4) • blk rb (.cells ruleB 170) • G) → Calls Tryz.prog 190 #[.string s2, .pointer (some ⟨nb, 0, none⟩), .pointer (some ⟨rb, 0, none⟩)] W fun e w' => e = .returned .nilIface ∧ Sat B w0 w' (blk nb (.cells #[.bool net] 4) • blk rb (.cells c2 170) • G))
    (h3 : ∀ (rb : Nat) W G, Sat B w0 W (blk rb (.cells c2 170) • G) → Calls Tryz.prog 193 #[.string s3, .pointer (some ⟨rb, 0, none⟩)] W fun e w' => e = .returned .nilIface ∧ Sat B w0 w' (blk rb (.cells c3 170) • G))
    (h4 : ∀ (rb : Nat) W G, Sat B w0 W (blk rb (.cells c3 170) • G) → Calls Tryz.prog 195 #[.string s4, .pointer (some ⟨rb, 0, none⟩)] W fun e w' => e = .returned .nilIface ∧ Sat B w0 w' (blk rb (.cells c4 170) • G)) :
    Calls Tryz.prog 130 #[.pointer (some ⟨r, 0, none⟩), .pointer (some ⟨b, 0, none⟩), .bool true] w fun e w' => e = .returned .nilIface ∧ ∃ rv', Sat B w0 w' (blk r (.cells #[sv, rv'] 88) • arr 170 24 rv' (n + 1) (rs ++ c4.toList) • F) := by
  obtain ⟨A0, c0, rfl⟩ := h.drop.drop.arr_form
  have hS1 := ((h.alloc (.cells ruleB 170)).alloc (.cells #[.bool false] 4)).alloc (.cells (ruleFs (w.heap.size + 1) w.heap.size).toArray 349)
  simp only [World.size_alloc] at hS1
  have hfl : (ruleFs (w.heap.size + 1) w.heap.size).length = 4 := by rw [ruleFs]; rfl
  have hS2 := Sat.arr_shut (n := 4) (cap := 4) (sz := 1) (xs := ruleFs (w.heap.size + 1) w.heap.size) (by decide) (by decide) (by rw [List.size_toArray, hfl]) (by rw [List.take_of_length_le (by rw [Array.length_toList, List.size_toArray, hfl]; decide)]) hS1
  have hall := rule_all (b := b) (g := g) (fin := fin) (fb := w.heap.size + 1 + 1) (nb := w.heap.size + 1) (rb := w.heap.size) (R := blk r (.cells #[sv, .slice A0 n c0] 88) • arr 170 24 (.slice A0 n c0) n rs • F) hT hc h1 h2 h3 h4 (hS2.to (by rw [ruA]; ac_rfl))
  obtain ⟨z, hz1, hz2, hz3⟩ := rule_zero
  have hld : ∀ W : World, W.heap[w.heap.size]? = some (.cells c4 170) → (Instr.loadAt 170 (.pointer (some ⟨w.heap.size, 0, none⟩))).run Tryz.prog W = .ok (.agg c4) W := fun W hW =>
    run_loadAt_row (cs := c4.toList) hW Tryz.underlying170 rfl (by rw [Array.length_toList, hc4]; kernel_rfl) (fun j u hu => by simpa using hu)
  clear hS1 hS2 h h1 h2 h3 h4 hT hfl
  have hbu : Tryz.prog.built 170 [(0, .bool true)] = some ruleB := by kernel_rfl
  have hz0 : (Tryz.prog.info? 170).map (·.zero) = some (some (.agg ruleZ.toArray)) := by kernel_rfl
  have hst : (Instr.storeAt 170 (.pointer (some ⟨w.heap.size, 0, none⟩)) (.agg ruleB)).run Tryz.prog (w.alloc (.cells (Value.agg ruleZ.toArray).cells 170)) = .ok () (w.alloc (.cells ruleB 170)) :=
    run_storeAt_new (v := .agg ruleB) (by kernel_rfl) (by decide) (by decide)
  rw [ruleFs] at hall
  generalize ruleB = RB at *
  generalize ruleZ = RZ at *
  go_enter Tryz.func130, Tryz.ntmps130
  go_upto_region 1 with (fail)
  refine wp_region_seq [(0, .pure), (1, .acts), (2, .acts), (3, .seals)] (by kernel_rfl)
    (fun _ => True) trivial ?_
  iterate 1 (refine ord_pure rfl rfl rfl (fun K' hK => ?_); go_big_quiet_op; refine hK _ ?_; clear hK K')
  refine ord_acts rfl rfl (fun K' hK => ?_)
  refine wp_build1_run rfl (u := .bool true) rfl hbu ?_
  refine hK _ _ trivial ?_
  clear hK K'
  go_simp
  refine ord_acts rfl rfl (fun K' hK => wp_alloc_run rfl hz0 (hK _ _ trivial ?_))
  clear hK K'
  go_simp
  refine ord_store rfl rfl rfl rfl (p := .pointer (some ⟨w.heap.size, 0, none⟩)) (v := .agg RB) rfl rfl hst (fun _ => True) trivial ?_
  refine ord_nil ?_
  clear hst
  have hsz : (w.alloc (.cells RB 170)).heap.size = w.heap.size + 1 := World.size_alloc _ _
  generalize hrb : w.heap.size = rb at *
  generalize hW1 : w.alloc (.cells RB 170) = W1 at *
  rw [← hsz] at hall
  clear hsz
  go_wp2_with fail
  refine hall.mono ?_
  rintro e w1 ⟨rfl, hS1⟩
  have hC0 := (show Sat B w0 w1 (blk W1.heap.size (.cells #[.bool net] 4) • blk rb (.cells c4 170) • (blk r (.cells #[sv, .slice A0 n c0] 88) • arr 170 24 (.slice A0 n c0) n rs • F)) from hS1).drop.drew
  clear hall hS1
  go_wp2_with fail
  try go_frame
  have hC : Sat B w0 w1.drew (blk rb (.cells c4 170) • blk r (.cells #[sv, .slice A0 n c0] 88)) := (hC0.to (star_assoc _ _ _).symm).left
  have hD0 := hC0.alloc (.cells c4 170)
  have hrd : Reads (w1.drew.alloc (.cells c4 170)) (.slice (some ⟨w1.drew.heap.size, 0, none⟩) 1 1) 1 c4.toList := by
    have := reads_new (w := w1.drew) (t := 170) (m := 1) (c := 1) (cs := c4.toList)
    simpa using this
  obtain ⟨v6, w6, hrun, hS6⟩ := hD0.pull4.append (m := 1) (news := c4.toList) (t := 86) (ty := 86) (P := Tryz.prog) (x := .slice (some ⟨w1.drew.heap.size, 0, none⟩) 1 1) Tryz.underlying86 hz1 hz3 (by decide) hrd (by rw [Array.length_toList, hc4]) ho4 (by unfold maxLen; omega) (by omega)
  obtain ⟨A6, c6, rfl⟩ := hS6.arr_form
  obtain ⟨W7, hst7, hS7⟩ := one_storeS (o := 1) (ty := 86) (u := .slice A6 (n + 1) c6) hS6.pull4 (by kernel_rfl) (by simp) rfl rfl
  have hD : Sat B w0 (w1.drew.alloc (.cells c4 170)) (blk rb (.cells c4 170) • blk r (.cells #[sv, .slice A0 n c0] 88)) := hC.alloc_ _
  have hE5 : Sat B w0 w6 (blk rb (.cells c4 170) • blk r (.cells #[sv, .slice A0 n c0] 88)) := (hS6.drop.drop.to (star_assoc _ _ _).symm).left
  have hfin : Sat B w0 W7 (blk r (.cells #[sv, .slice A6 (n + 1) c6] 88) • arr 170 24 (.slice A6 (n + 1) c6) (n + 1) (rs ++ c4.toList) • F) :=
    (hS7.to (by ac_rfl : _ = blk w1.drew.heap.size (.cells c4 170) • blk rb (.cells c4 170) • (blk r (.cells (#[sv, Value.slice A0 n c0].setIfInBounds 1 (.slice A6 (n + 1) c6)) 88) • arr 170 24 (.slice A6 (n + 1) c6) (n + 1) (rs ++ c4.toList) • F))).drop.drop
  have HF := Lib.hid hfin
  clear hfin hS7 hS6 hD0 hrd hC0 hz1 hz3 hbu hz0 ho4 hn hc
  refine wp_region_ord [(0, .pure), (1, .pure), (2, .pure), (3, .pure), (4, .quiet), (5, .quiet), (6, .acts), (7, .acts), (8, .pure), (9, .pure), (10, .seals)] (by kernel_rfl) (by kernel_rfl)
    (fun w' => Sat B w0 w' (blk rb (.cells c4 170) • blk r (.cells #[sv, .slice A0 n c0] 88))) hC ?_
  iterate 4 (refine ord_pure rfl rfl rfl (fun K' hK => ?_); go_big_quiet_op; refine hK _ ?_; clear hK K')
  refine ord_load (t := 86) rfl rfl rfl (p := .pointer (some ⟨r, 1, none⟩)) (v := .slice A0 n c0) rfl (fun w' hC => run_loadAt_one hC.swap.heap Tryz.underlying86 rfl rfl) (fun K' hK => ?_)
  go_simp
  refine hK _ ?_
  clear hK K'
  refine ord_load (t := 170) rfl rfl rfl (p := .pointer (some ⟨rb, 0, none⟩)) (v := .agg c4) rfl (fun w' hC => hld _ hC.heap) (fun K' hK => ?_)
  go_simp
  refine hK _ ?_
  clear hK K'
  refine ord_acts rfl rfl (fun K' hK => wp_buildSlice_one (v := .agg c4) (sz := 24) rfl rfl Tryz.underlying86 hz2 (by simp [Value.cells, hc4]) (by decide) (by decide) (hK _ _ hD ?_))
  clear hK K'
  go_simp
  refine ord_acts rfl rfl (fun K' hK => wp_append_run _ _ _ rfl rfl rfl hrun (hK _ _ hE5 ?_))
  clear hK K'
  go_simp
  iterate 2 (refine ord_pure rfl rfl rfl (fun K' hK => ?_); go_big_quiet_op; refine hK _ ?_; clear hK K')
  refine ord_store rfl rfl rfl rfl (p := .pointer (some ⟨r, 1, none⟩)) (v := .slice A6 (n + 1) c6) rfl rfl hst7 (fun _ => True) trivial ?_
  refine ord_nil ?_
  go_wp2_with fail
  go_ret
  exact ⟨rfl, _, HF.out⟩
end Go.Proofs.YtdcekoocnoackaaGreatDoor

/-! name: labels of one letter. -/
namespace Go.Proofs.YtdcekoocnoackaaGreatDoor
open Go Go.RowKit

set_option maxRecDepth 8000 in
set_option maxHeartbeats 1000000 in
theorem label1_any (b : Int) (h : 97 ≤ b) (h2 : b ≤ 122) (w : World) : Calls Tryz.prog 320 #[.int .u8 b] w fun e w' => e = .returned (.bool false) ∧ w' = w := by
  have e1 : ¬ b < 33 := by omega
  have e2 : ¬ 126 < b := by omega
  have e3 : (b == 46) = false := by rw [beq_eq_false_iff_ne]; omega
  have e4 : (65 : Int) ≤ b := by omega
  have e5 : ¬ b ≤ 90 := by omega
  go_enter Tryz.func320, Tryz.ntmps320
  go_wp2_with fail
  go_ret
  exact ⟨rfl, rfl⟩
set_option maxRecDepth 8000 in
set_option maxHeartbeats 1000000 in
theorem label_any (b : UInt8) (h : 97 ≤ b.toNat) (h2 : b.toNat ≤ 122) (w : World) : Calls Tryz.prog 293 #[.string ⟨#[b]⟩] w fun e w' => e = .returned (.bool true) ∧ Below w.heap.size w w' := by
  have hcv := Lib.run_convert_string_bytes (P := Tryz.prog) w 9 32 5 ⟨#[b]⟩ Tryz.underlying9 Tryz.underlying32 Tryz.underlying5
  have hb := bytesWorld_below w ⟨#[b]⟩ 5
  have d0 := Lib.bytesWorld_cell w 5 ⟨#[b]⟩ 0 (Nat.zero_lt_one)
  have c1 := hasB_any (w := Lib.bytesWorld w 5 ⟨#[b]⟩) (p := fun _ => false) (bs := [(b.toNat : Int)]) (g := w.heap.size) (o := 0) (cap := grownCap w 1 0 5) (lb := #[]) (enters_of Tryz.func320 (by kernel_rfl) rfl) (by simp) (fun j x hx => by
      cases j with
      | zero => cases hx; exact d0
      | succ j => simp at hx) (fun x W hx => by
      obtain rfl : x = (b.toNat : Int) := by simpa using hx
      exact (label1_any _ (by omega) (by omega) W).mono (by rintro e w' ⟨rfl, rfl⟩; exact ⟨rfl, Below.refl _ _⟩))
  generalize Lib.bytesWorld w 5 ⟨#[b]⟩ = W1 at *
  clear d0
  go_enter Tryz.func293, Tryz.ntmps293
  go_wp2_with fail
  refine c1.mono ?_
  rintro e w2 ⟨rfl, hb2⟩
  go_wp2_with fail
  go_ret
  exact ⟨rfl, hb.trans (hb2.mono hb.size)⟩
end Go.Proofs.YtdcekoocnoackaaGreatDoor

/-! slices.IndexFunc, slices.ContainsFunc at strings, of a predicate that turns nothing. -/
namespace Go.Proofs.YtdcekoocnoackaaGreatDoor
open Go Go.RowKit

section
variable {w : World} {p : ByteArray → Bool} {bs : List ByteArray} {gn g o cap : Nat} {lb : Array Value}
set_option maxRecDepth 8000 in
set_option maxHeartbeats 2000000 in
theorem indexT_any (eg : ∀ args w, (callFunc gn args).run Tryz.prog w = .ok (.enter gn args) w) (hn : bs.length ≤ 1000)
    (hc : ∀ j b, bs[j]? = some b → w.cell? ⟨g, o + j, none⟩ = some (.string b))
    (hp : ∀ b W, b ∈ bs → Calls Tryz.prog gn (#[.string b] ++ lb) W fun e w' => e = .returned (.bool (p b)) ∧ Below W.heap.size W w') :
    Calls Tryz.prog 319 #[.slice (some ⟨g, o, none⟩) bs.length cap, .func (.func gn) #[] lb] w fun e w' => e = .returned (.int .i64 (plc p bs)) ∧ Below w.heap.size w w' := by
  have HP := Lib.hid hp
  have HC := Lib.hid hc
  clear hp hc
  go_enter Tryz.func319, Tryz.ntmps319
  go_wp2_with fail
  go_loopw [5, 8] (fun _ s wr => ∃ k : Nat, k ≤ bs.length ∧ s = .int .i64 k ∧ Below w.heap.size w wr ∧ Hid (∀ j y, j < k → bs[j]? = some y → p y = false)) (fun _ s _ => bs.length - (intOf s).toNat)
  case atStart => exact ⟨0, Nat.zero_le _, rfl, Below.refl _ _, Lib.hid fun j y hj => absurd hj (Nat.not_lt_zero _)⟩
  case round =>
    obtain ⟨k, hk, rfl, hB, HK⟩ := hrel
    by_cases hlt : k < bs.length
    · obtain ⟨x, hxk⟩ : ∃ x, bs[k]? = some x := ⟨_, List.getElem?_eq_getElem hlt⟩
      have h0 := HC.out k x hxk
      have d0 : wr.cell? ⟨g, o + k, none⟩ = some (.string x) := by rw [hB.cell (World.block_lt_of_cell? _ _ h0)]; exact h0
      have hcall := HP.out x wr (List.mem_of_getElem? hxk)
      have hltz : (k : Int) < bs.length := by omega
      have HX := Lib.hid hxk
      clear hxk h0
      cases hq : p x with
      | true =>
        rw [hq] at hcall
        have HQ := Lib.hid hq
        clear hq
        go_wp2_with (go_at_fn gn; refine hcall.mono ?_; rintro e w2 ⟨rfl, hB2⟩)
        go_ret
        rw [plc_hit HX.out HQ.out HK.out]
        exact ⟨rfl, hB.trans (hB2.mono hB.size)⟩
      | false =>
        rw [hq] at hcall
        have HQ := Lib.hid hq
        clear hq
        go_wp2_with (go_at_fn gn; refine hcall.mono ?_; rintro e w2 ⟨rfl, hB2⟩)
        go_roundw
        case rel => exact ⟨k + 1, by omega, by go_num, hB.trans (hB2.mono hB.size), Lib.hid (plc_next HK.out HX.out HQ.out)⟩
        case measure => simp [intOf]; omega
    · obtain rfl : k = bs.length := by omega
      go_wp2_with fail
      go_ret
      rw [plc_done HK.out (Nat.le_refl _)]
      exact ⟨rfl, hB⟩
set_option maxRecDepth 8000 in
set_option maxHeartbeats 1000000 in
theorem hasT_any (eg : ∀ args w, (callFunc gn args).run Tryz.prog w = .ok (.enter gn args) w) (hn : bs.length ≤ 1000)
    (hc : ∀ j b, bs[j]? = some b → w.cell? ⟨g, o + j, none⟩ = some (.string b))
    (hp : ∀ b W, b ∈ bs → Calls Tryz.prog gn (#[.string b] ++ lb) W fun e w' => e = .returned (.bool (p b)) ∧ Below W.heap.size W w') :
    Calls Tryz.prog 291 #[.slice (some ⟨g, o, none⟩) bs.length cap, .func (.func gn) #[] lb] w fun e w' => e = .returned (.bool (bs.any p)) ∧ Below w.heap.size w w' := by
  have c1 := indexT_any (cap := cap) eg hn hc hp
  have hq : decide ((0 : Int) ≤ plc p bs) = bs.any p := by
    rcases plc_cases p bs with ⟨e1, hno⟩ | ⟨k, x, hx, hpx, e1, _⟩
    · rw [e1, List.any_eq_false.2 (fun x hx => by rw [hno x hx]; exact Bool.false_ne_true)]; rfl
    · rw [e1, List.any_eq_true.2 ⟨x, List.mem_of_getElem? hx, hpx⟩]; simp
  generalize plc p bs = r at *
  rw [← hq]
  clear hq hp hc hn
  go_enter Tryz.func291, Tryz.ntmps291
  go_wp2_with fail
  refine c1.mono ?_
  rintro e w1 ⟨rfl, hb⟩
  go_wp2_with fail
  go_ret
  exact ⟨rfl, hb⟩
end
end Go.Proofs.YtdcekoocnoackaaGreatDoor

/-! name.Labels, size, Right, rule.plain, rule.pattern at the names of the text. -/
namespace Go.Proofs.YtdcekoocnoackaaGreatDoor
open Go Go.RowKit

set_option maxRecDepth 8000 in
set_option maxHeartbeats 1000000 in
/-- The negation of a label's test, at one small letter. -/
theorem right1_any (b : UInt8) (h : 97 ≤ b.toNat) (h2 : b.toNat ≤ 122) (w : World) : Calls Tryz.prog 292 #[.string ⟨#[b]⟩] w fun e w' => e = .returned (.bool false) ∧ Below w.heap.size w w' := by
  have c1 := label_any b h h2 w
  go_enter Tryz.func292, Tryz.ntmps292
  go_wp2_with fail
  refine c1.mono ?_
  rintro e w1 ⟨rfl, hb⟩
  go_wp2_with fail
  go_ret
  exact ⟨rfl, hb⟩

set_option maxRecDepth 8000 in
set_option maxHeartbeats 1000000 in
theorem labels_a (w : World) (hm : Mx w) : Calls Tryz.prog 204 #[.string ⟨#[97]⟩] w fun e w' => e = .returned (.slice (some ⟨w.heap.size, 0, none⟩) 1 1) ∧ w' = w.alloc (.cells #[.string ⟨#[97]⟩] 9) := by
  obtain ⟨m, hm0⟩ := hm
  have c1 : Calls Tryz.prog 260 #[.string ⟨#[97]⟩, .string ⟨#[46]⟩] w fun e w' => e = .returned (.slice (some ⟨w.heap.size, 0, none⟩) 1 1) ∧ w' = w.alloc (.cells #[.string ⟨#[97]⟩] 9) := by
    have := Tryz.strings_Split ⟨#[97]⟩ ⟨#[46]⟩ m w (by decide) hm0 (by decide)
    exact this
  clear hm0
  go_enter Tryz.func204, Tryz.ntmps204
  go_wp2_with fail
  refine c1.mono ?_
  rintro e w1 ⟨rfl, rfl⟩
  go_wp2_with fail
  go_ret
  exact ⟨rfl, rfl⟩

set_option maxRecDepth 8000 in
set_option maxHeartbeats 1000000 in
theorem size_a {w : World} {g : Nat} (h0 : w.cell? ⟨g, 0, none⟩ = some (.string ⟨#[97]⟩)) : Calls Tryz.prog 290 #[.slice (some ⟨g, 0, none⟩) 1 1] w fun e w' => e = .returned (.int .i64 3) ∧ w' = w := by
  go_enter Tryz.func290, Tryz.ntmps290
  go_wp2_with fail
  refine wp_loop_rounds 2 ?_
  rw [rounds_succ]
  go_wp2_with fail
  rw [rounds_succ]
  go_wp2_with fail
  go_ret
  exact ⟨rfl, rfl⟩

set_option maxRecDepth 8000 in
set_option maxHeartbeats 1000000 in
theorem nright_a (w : World) (hm : Mx w) : Calls Tryz.prog 258 #[.string ⟨#[97]⟩] w fun e w' => e = .returned (.bool true) ∧ Below w.heap.size w w' := by
  have c1 := labels_a w hm
  have hS := (Sat.start w).alloc (.cells #[.string ⟨#[97]⟩] 9)
  have hB := hS.below
  have d0 : (w.alloc (.cells #[.string ⟨#[97]⟩] 9)).cell? ⟨w.heap.size, 0, none⟩ = some (.string ⟨#[97]⟩) := cell_heap hS.heap rfl
  have c2 := size_a d0
  have c3 := hasT_any (w := w.alloc (.cells #[.string ⟨#[97]⟩] 9)) (p := fun _ => false) (bs := [(⟨#[97]⟩ : ByteArray)]) (g := w.heap.size) (o := 0) (cap := 1) (lb := #[]) (enters_of Tryz.func292 (by kernel_rfl) rfl) (by simp) (fun j x hx => by
      rw [Nat.zero_add]
      match j, hx with
      | 0, hx => cases hx; exact d0
      | (j + 1), hx => simp at hx) (fun x W hx => by
      simp only [List.mem_cons, List.not_mem_nil, or_false] at hx
      rcases hx with rfl
      · exact right1_any 97 (by decide) (by decide) W)
  generalize w.alloc (.cells #[.string ⟨#[97]⟩] 9) = W1 at *
  clear hS hm
  go_enter Tryz.func258, Tryz.ntmps258
  go_wp2_with fail
  refine c1.mono ?_
  rintro e w1 ⟨rfl, rfl⟩
  go_wp2_with fail
  refine c2.mono ?_
  rintro e w2 ⟨rfl, rfl⟩
  go_wp2_with fail
  refine c3.mono ?_
  rintro e w3 ⟨rfl, hb3⟩
  go_wp2_with fail
  go_ret
  exact ⟨rfl, hB.trans (hb3.mono hB.size)⟩

set_option maxRecDepth 8000 in
set_option maxHeartbeats 1000000 in
theorem labels_ba (w : World) (hm : Mx w) : Calls Tryz.prog 204 #[.string ⟨#[98, 46, 97]⟩] w fun e w' => e = .returned (.slice (some ⟨w.heap.size, 0, none⟩) 2 2) ∧ w' = w.alloc (.cells #[.string ⟨#[98]⟩, .string ⟨#[97]⟩] 9) := by
  obtain ⟨m, hm0⟩ := hm
  have c1 : Calls Tryz.prog 260 #[.string ⟨#[98, 46, 97]⟩, .string ⟨#[46]⟩] w fun e w' => e = .returned (.slice (some ⟨w.heap.size, 0, none⟩) 2 2) ∧ w' = w.alloc (.cells #[.string ⟨#[98]⟩, .string ⟨#[97]⟩] 9) := by
    have := Tryz.strings_Split ⟨#[98, 46, 97]⟩ ⟨#[46]⟩ m w (by decide) hm0 (by decide)
    exact this
  clear hm0
  go_enter Tryz.func204, Tryz.ntmps204
  go_wp2_with fail
  refine c1.mono ?_
  rintro e w1 ⟨rfl, rfl⟩
  go_wp2_with fail
  go_ret
  exact ⟨rfl, rfl⟩

set_option maxRecDepth 8000 in
set_option maxHeartbeats 1000000 in
theorem size_ba {w : World} {g : Nat} (h0 : w.cell? ⟨g, 0, none⟩ = some (.string ⟨#[98]⟩)) (h1 : w.cell? ⟨g, 1, none⟩ = some (.string ⟨#[97]⟩)) : Calls Tryz.prog 290 #[.slice (some ⟨g, 0, none⟩) 2 2] w fun e w' => e = .returned (.int .i64 5) ∧ w' = w := by
  go_enter Tryz.func290, Tryz.ntmps290
  go_wp2_with fail
  refine wp_loop_rounds 3 ?_
  rw [rounds_succ]
  go_wp2_with fail
  rw [rounds_succ]
  go_wp2_with fail
  rw [rounds_succ]
  go_wp2_with fail
  go_ret
  exact ⟨rfl, rfl⟩

set_option maxRecDepth 8000 in
set_option maxHeartbeats 1000000 in
theorem nright_ba (w : World) (hm : Mx w) : Calls Tryz.prog 258 #[.string ⟨#[98, 46, 97]⟩] w fun e w' => e = .returned (.bool true) ∧ Below w.heap.size w w' := by
  have c1 := labels_ba w hm
  have hS := (Sat.start w).alloc (.cells #[.string ⟨#[98]⟩, .string ⟨#[97]⟩] 9)
  have hB := hS.below
  have d0 : (w.alloc (.cells #[.string ⟨#[98]⟩, .string ⟨#[97]⟩] 9)).cell? ⟨w.heap.size, 0, none⟩ = some (.string ⟨#[98]⟩) := cell_heap hS.heap rfl
  have d1 : (w.alloc (.cells #[.string ⟨#[98]⟩, .string ⟨#[97]⟩] 9)).cell? ⟨w.heap.size, 1, none⟩ = some (.string ⟨#[97]⟩) := cell_heap hS.heap rfl
  have c2 := size_ba d0 d1
  have c3 := hasT_any (w := w.alloc (.cells #[.string ⟨#[98]⟩, .string ⟨#[97]⟩] 9)) (p := fun _ => false) (bs := [(⟨#[98]⟩ : ByteArray), (⟨#[97]⟩ : ByteArray)]) (g := w.heap.size) (o := 0) (cap := 2) (lb := #[]) (enters_of Tryz.func292 (by kernel_rfl) rfl) (by simp) (fun j x hx => by
      rw [Nat.zero_add]
      match j, hx with
      | 0, hx => cases hx; exact d0
      | 1, hx => cases hx; exact d1
      | (j + 2), hx => simp at hx) (fun x W hx => by
      simp only [List.mem_cons, List.not_mem_nil, or_false] at hx
      rcases hx with rfl | rfl
      · exact right1_any 98 (by decide) (by decide) W
      · exact right1_any 97 (by decide) (by decide) W)
  generalize w.alloc (.cells #[.string ⟨#[98]⟩, .string ⟨#[97]⟩] 9) = W1 at *
  clear hS hm
  go_enter Tryz.func258, Tryz.ntmps258
  go_wp2_with fail
  refine c1.mono ?_
  rintro e w1 ⟨rfl, rfl⟩
  go_wp2_with fail
  refine c2.mono ?_
  rintro e w2 ⟨rfl, rfl⟩
  go_wp2_with fail
  refine c3.mono ?_
  rintro e w3 ⟨rfl, hb3⟩
  go_wp2_with fail
  go_ret
  exact ⟨rfl, hB.trans (hb3.mono hB.size)⟩
end Go.Proofs.YtdcekoocnoackaaGreatDoor
