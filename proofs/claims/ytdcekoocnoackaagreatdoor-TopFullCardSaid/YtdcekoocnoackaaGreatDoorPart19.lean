import Derived.Test.YtdcekoocnoackaaGreatDoorPart18
import Derived.Lib.AppendZeros
import Derived.WalkKit
import Derived.Test.YtdcekoocnoackaaGreatDoorPart02
import Derived.KernelRfl
import Derived.Test.YtdcekoocnoackaaGreatDoorProg
import Derived.Lib.Hide

/-! slices.Grow of nil; slices.Concat of slices of bytes. -/
namespace Go.Proofs.YtdcekoocnoackaaGreatDoor
open Go Go.RowKit

set_option maxRecDepth 8000 in
set_option maxHeartbeats 2000000 in
theorem grow8_any {B : Nat} {w0 w : World} {F : HP} (n : Nat) (h0 : 0 < n) (hn : n ≤ 2000) (h : Sat B w0 w F) :
    Calls Tryz.prog 275 #[.slice none 0 0, .int .i64 n] w fun e w' => ∃ g c, e = .returned (.slice (some ⟨g, 0, none⟩) 0 c) ∧ Sat B w0 w' (arr 5 1 (.slice (some ⟨g, 0, none⟩) 0 c) 0 [] • F) := by
  obtain ⟨i, hi, hzz⟩ := Option.map_eq_some_iff.1 (show (Tryz.prog.info? 5).map (fun i => (i.zero, i.size, i.bytes)) = some (some (.int .u8 0), 1, 1) by kernel_rfl)
  simp only [Prod.mk.injEq] at hzz
  obtain ⟨hz, hs1, hb1⟩ := hzz
  have hr := Lib.run_append_nil_zeros (P := Tryz.prog) w 32 3 32 5 i (.int .u8 0) .i64 .i64 Tryz.underlying32 Tryz.underlying3 hi hz n h0 (by omega) (by omega) (by rw [hb1]; omega)
  have hge := grownCap_ge w n 0 5
  have hle := grownCap_le_maxLen w n 0 5 (by unfold maxLen; omega)
  generalize grownCap w n 0 5 = c at *
  have hcs : (Builtin.zeroCells (Value.cells (.int .u8 0)) n ++ Builtin.zeroCells (Value.cells (.int .u8 0)) (c - n)).size = c := by simp [size_zeroCells, Value.cells]; omega
  generalize Builtin.zeroCells (Value.cells (.int .u8 0)) n ++ Builtin.zeroCells (Value.cells (.int .u8 0)) (c - n) = cur at *
  have hS := h.drew.alloc (.cells cur 5)
  have hA := Sat.arr_shut (n := 0) (cap := c) (sz := 1) (xs := []) (Nat.zero_le _) hle (by rw [hcs, Nat.mul_one]) rfl hS
  have HF := Lib.hid hA
  have e1 : (0 : Int) < (n : Int) := by omega
  have e2 : (n : Int) ≤ 2000 := by omega
  have hsz : w.drew.heap.size = w.heap.size := rfl
  clear hS hA h hcs hi hz hs1 hb1
  go_enter Tryz.func275, Tryz.ntmps275
  go_wp2_with (at_builtin; refine Lib.wpList_append_run _ rfl _ _ _ _ rfl _ _ rfl rfl _ _ hr (stop_ ?_))
  unfold Stop
  clear hr
  go_wp2_with fail
  go_ret
  exact ⟨_, c, rfl, HF.out⟩
set_option maxRecDepth 8000 in
set_option maxHeartbeats 2000000 in
theorem growi_any {B : Nat} {w0 w : World} {F : HP} (n : Nat) (h0 : 0 < n) (hn : n ≤ 2000) (h : Sat B w0 w F) :
    Calls Tryz.prog 242 #[.slice none 0 0, .int .i64 n] w fun e w' => ∃ g c, e = .returned (.slice (some ⟨g, 0, none⟩) 0 c) ∧ Sat B w0 w' (arr 3 1 (.slice (some ⟨g, 0, none⟩) 0 c) 0 [] • F) := by
  obtain ⟨i, hi, hzz⟩ := Option.map_eq_some_iff.1 (show (Tryz.prog.info? 3).map (fun i => (i.zero, i.size, i.bytes)) = some (some (.int .i64 0), 1, 8) by kernel_rfl)
  simp only [Prod.mk.injEq] at hzz
  obtain ⟨hz, hs1, hb1⟩ := hzz
  have hr := Lib.run_append_nil_zeros (P := Tryz.prog) w 208 3 208 3 i (.int .i64 0) .i64 .i64 Tryz.underlying208 Tryz.underlying3 hi hz n h0 (by omega) (by omega) (by rw [hb1]; omega)
  have hge := grownCap_ge w n 0 3
  have hle := grownCap_le_maxLen w n 0 3 (by unfold maxLen; omega)
  generalize grownCap w n 0 3 = c at *
  have hcs : (Builtin.zeroCells (Value.cells (.int .i64 0)) n ++ Builtin.zeroCells (Value.cells (.int .i64 0)) (c - n)).size = c := by simp [size_zeroCells, Value.cells]; omega
  generalize Builtin.zeroCells (Value.cells (.int .i64 0)) n ++ Builtin.zeroCells (Value.cells (.int .i64 0)) (c - n) = cur at *
  have hS := h.drew.alloc (.cells cur 3)
  have hA := Sat.arr_shut (n := 0) (cap := c) (sz := 1) (xs := []) (Nat.zero_le _) hle (by rw [hcs, Nat.mul_one]) rfl hS
  have HF := Lib.hid hA
  have e1 : (0 : Int) < (n : Int) := by omega
  have e2 : (n : Int) ≤ 2000 := by omega
  have hsz : w.drew.heap.size = w.heap.size := rfl
  clear hS hA h hcs hi hz hs1 hb1
  go_enter Tryz.func242, Tryz.ntmps242
  go_wp2_with (at_builtin; refine Lib.wpList_append_run _ rfl _ _ _ _ rfl _ _ rfl rfl _ _ hr (stop_ ?_))
  unfold Stop
  clear hr
  go_wp2_with fail
  go_ret
  exact ⟨_, c, rfl, HF.out⟩
/-- Where these parts are, bytes stand at a place. -/
def Shows (B : Nat) (w0 : World) (F : HP) (g o : Nat) (bs : List Int) : Prop := ∀ W, Sat B w0 W F → Vw W g o bs
section
variable {B : Nat} {w0 : World} {F G : HP} {g o n c : Nat} {bs : List Int}
theorem Shows.drop (h : Shows B w0 F g o bs) (k : Nat) : Shows B w0 F g (o + k) (bs.drop k) := fun W hW => (h W hW).drop k
theorem Shows.take (h : Shows B w0 F g o bs) (k : Nat) : Shows B w0 F g o (bs.take k) := fun W hW => (h W hW).take k
theorem Shows.more (h : Shows B w0 F g o bs) : Shows B w0 (G • F) g o bs := fun W hW => h W hW.drop
theorem byt_shows (hp : 0 < bs.length) : Shows B w0 (byt (.slice (some ⟨g, 0, none⟩) n c) bs • F) g 0 bs := fun W hW => by
  obtain ⟨g', c', hv, _, hV⟩ := hW.bytVw hp
  simp only [Value.slice.injEq, Option.some.injEq, Addr.mk.injEq] at hv
  obtain ⟨⟨rfl, _⟩, _⟩ := hv
  exact hV
theorem blk_shows {cs : Array Value} {t : TypeId} (h : ∀ (j : Nat) (u : Int), bs[j]? = some u → cs[o + j]? = some (.int .u8 u)) : Shows B w0 (blk g (.cells cs t) • F) g o bs := fun _ hW j u hu => cell_heap hW.heap (h j u hu)
end
set_option maxRecDepth 8000 in
set_option maxHeartbeats 4000000 in
theorem concat2_any {B : Nat} {w0 w : World} {F : HP} {hh g1 o1 c1 g2 o2 c2 : Nat} {b1 b2 : List Int} (h : Sat B w0 w F)
    (hd : ∀ W, Sat B w0 W F → W.cell? ⟨hh, 0, none⟩ = some (.slice (some ⟨g1, o1, none⟩) b1.length c1) ∧ W.cell? ⟨hh, 1, none⟩ = some (.slice (some ⟨g2, o2, none⟩) b2.length c2))
    (hv1 : Shows B w0 F g1 o1 b1) (hv2 : Shows B w0 F g2 o2 b2) (h1 : 0 < (b1.length + b2.length)) (h2 : (b1.length + b2.length) ≤ 2000) :
    Calls Tryz.prog 231 #[.slice (some ⟨hh, 0, none⟩) 2 2] w fun e w' => ∃ v', e = .returned v' ∧ Sat B w0 w' (byt v' (b1 ++ b2) • F) := by
  have cg := grow8_any (B := B) (w0 := w0) (F := F) (b1.length + b2.length) h1 h2 h
  simp only [Int.natCast_add] at cg
  obtain ⟨d1, d2⟩ := hd w h
  have HD := Lib.hid hd
  have e1 : (b1.length : Int) ≤ 2000 := by omega
  have e2 : (b2.length : Int) ≤ 2000 := by omega
  have e0 : (b1.length : Int) + (b2.length : Int) ≤ 2000 := by omega
  have HL := Lib.hid h2
  clear h hd h1 h2
  go_enter Tryz.func231, Tryz.ntmps231
  go_wp2_with fail
  refine wp_loop_rounds 3 ?_
  rw [rounds_succ]
  go_wp2_with fail
  rw [rounds_succ]
  go_wp2_with fail
  rw [rounds_succ]
  go_wp2_with fail
  refine cg.mono ?_
  rintro e w1 ⟨g, c, rfl, hS⟩
  have hS0 : Sat B w0 w1 (byt (.slice (some ⟨g, 0, none⟩) 0 c) [] • F) := hS
  clear cg d1 d2 hS
  go_wp2_with fail
  refine wp_loop_rounds 3 ?_
  rw [rounds_succ]
  obtain ⟨d1, d2⟩ := HD.out _ hS0.drop
  obtain ⟨v1, u1, hr1, hS1⟩ := hS0.bytApp (b := b1) (hv1 _ hS0.drop).reads (by have hL := HL.out; simp; omega)
  go_wp2_with (at_builtin; refine wpList_append_run rfl _ _ _ rfl rfl rfl hr1 (stop_ ?_))
  unfold Stop
  clear hr1 d1 d2
  go_wp2_with fail
  rw [rounds_succ]
  obtain ⟨d1, d2⟩ := HD.out _ hS1.drop
  obtain ⟨v2, u2, hr2, hS2⟩ := hS1.bytApp (b := b2) (hv2 _ hS1.drop).reads (by have hL := HL.out; simp; omega)
  go_wp2_with (at_builtin; refine wpList_append_run rfl _ _ _ rfl rfl rfl hr2 (stop_ ?_))
  unfold Stop
  clear hr2 d1 d2
  go_wp2_with fail
  rw [rounds_succ]
  go_wp2_with fail
  go_ret
  rw [List.nil_append] at hS2
  exact ⟨v2, rfl, hS2⟩
set_option maxRecDepth 8000 in
set_option maxHeartbeats 4000000 in
theorem concat3_any {B : Nat} {w0 w : World} {F : HP} {hh g1 o1 c1 g2 o2 c2 g3 o3 c3 : Nat} {b1 b2 b3 : List Int} (h : Sat B w0 w F)
    (hd : ∀ W, Sat B w0 W F → W.cell? ⟨hh, 0, none⟩ = some (.slice (some ⟨g1, o1, none⟩) b1.length c1) ∧ W.cell? ⟨hh, 1, none⟩ = some (.slice (some ⟨g2, o2, none⟩) b2.length c2) ∧ W.cell? ⟨hh, 2, none⟩ = some (.slice (some ⟨g3, o3, none⟩) b3.length c3))
    (hv1 : Shows B w0 F g1 o1 b1) (hv2 : Shows B w0 F g2 o2 b2) (hv3 : Shows B w0 F g3 o3 b3) (h1 : 0 < (b1.length + b2.length + b3.length)) (h2 : (b1.length + b2.length + b3.length) ≤ 2000) :
    Calls Tryz.prog 231 #[.slice (some ⟨hh, 0, none⟩) 3 3] w fun e w' => ∃ v', e = .returned v' ∧ Sat B w0 w' (byt v' ((b1 ++ b2) ++ b3) • F) := by
  have cg := grow8_any (B := B) (w0 := w0) (F := F) (b1.length + b2.length + b3.length) h1 h2 h
  simp only [Int.natCast_add] at cg
  obtain ⟨d1, d2, d3⟩ := hd w h
  have HD := Lib.hid hd
  have e1 : (b1.length : Int) ≤ 2000 := by omega
  have e2 : (b2.length : Int) ≤ 2000 := by omega
  have e3 : (b3.length : Int) ≤ 2000 := by omega
  have e0 : (b1.length : Int) + (b2.length : Int) + (b3.length : Int) ≤ 2000 := by omega
  have HL := Lib.hid h2
  clear h hd h1 h2
  go_enter Tryz.func231, Tryz.ntmps231
  go_wp2_with fail
  refine wp_loop_rounds 4 ?_
  rw [rounds_succ]
  go_wp2_with fail
  rw [rounds_succ]
  go_wp2_with fail
  rw [rounds_succ]
  go_wp2_with fail
  rw [rounds_succ]
  go_wp2_with fail
  refine cg.mono ?_
  rintro e w1 ⟨g, c, rfl, hS⟩
  have hS0 : Sat B w0 w1 (byt (.slice (some ⟨g, 0, none⟩) 0 c) [] • F) := hS
  clear cg d1 d2 d3 hS
  go_wp2_with fail
  refine wp_loop_rounds 4 ?_
  rw [rounds_succ]
  obtain ⟨d1, d2, d3⟩ := HD.out _ hS0.drop
  obtain ⟨v1, u1, hr1, hS1⟩ := hS0.bytApp (b := b1) (hv1 _ hS0.drop).reads (by have hL := HL.out; simp; omega)
  go_wp2_with (at_builtin; refine wpList_append_run rfl _ _ _ rfl rfl rfl hr1 (stop_ ?_))
  unfold Stop
  clear hr1 d1 d2 d3
  go_wp2_with fail
  rw [rounds_succ]
  obtain ⟨d1, d2, d3⟩ := HD.out _ hS1.drop
  obtain ⟨v2, u2, hr2, hS2⟩ := hS1.bytApp (b := b2) (hv2 _ hS1.drop).reads (by have hL := HL.out; simp; omega)
  go_wp2_with (at_builtin; refine wpList_append_run rfl _ _ _ rfl rfl rfl hr2 (stop_ ?_))
  unfold Stop
  clear hr2 d1 d2 d3
  go_wp2_with fail
  rw [rounds_succ]
  obtain ⟨d1, d2, d3⟩ := HD.out _ hS2.drop
  obtain ⟨v3, u3, hr3, hS3⟩ := hS2.bytApp (b := b3) (hv3 _ hS2.drop).reads (by have hL := HL.out; simp; omega)
  go_wp2_with (at_builtin; refine wpList_append_run rfl _ _ _ rfl rfl rfl hr3 (stop_ ?_))
  unfold Stop
  clear hr3 d1 d2 d3
  go_wp2_with fail
  rw [rounds_succ]
  go_wp2_with fail
  go_ret
  rw [List.nil_append] at hS3
  exact ⟨v3, rfl, hS3⟩
end Go.Proofs.YtdcekoocnoackaaGreatDoor

/-! The words of a policy's text: plain laws. -/
namespace Go.Proofs.YtdcekoocnoackaaGreatDoor
open Go Go.RowKit

/-- A byte's kind. -/
def kindU (c : UInt8) : Int := if c = 9 then 1 else if c = 13 then 1 else if c = 32 then 1 else if c = 10 then 2 else if c = 35 then 3 else if 32 < c.toNat ∧ c.toNat ≤ 126 then 4 else 0
/-- Is a byte a letter? -/
def isL (c : UInt8) : Bool := kindU c == 4
theorem tw_len (l : List UInt8) (k : Nat) (h : ∀ j c, j < k → l[j]? = some c → isL c = true) (hk : k ≤ l.length) (he : ∀ c, l[k]? = some c → isL c = false) : (l.takeWhile isL).length = k := by
  induction l generalizing k with
  | nil => simp at hk; simp [hk]
  | cons x l ih =>
    cases k with
    | zero =>
      have := he x rfl
      simp [List.takeWhile, this]
    | succ k =>
      have h0 := h 0 x (Nat.succ_pos _) rfl
      simp only [List.takeWhile, h0, List.length_cons]
      rw [ih k (fun j c hj hc => h (j + 1) c (by omega) hc) (by simpa using hk) (fun c hc => he c hc)]
/-- A token. -/
structure Tok where
  kind : Int
  pos : Nat
  row : Nat
  text : ByteArray
def Tok.enc (t : Tok) : List Value := [.int .i64 t.kind, .int .i64 t.pos, .int .i64 t.row, .string t.text]
/-- The tokens from a place on; none where a byte may not be. -/
def toksFrom : Nat → ByteArray → Nat → Nat → Option (List Tok)
  | 0, _, _, _ => none
  | f + 1, s, i, row =>
    match s.data.toList[i]? with
    | none => some [⟨2, s.size, row, ByteArray.empty⟩]
    | some c =>
      if kindU c = 1 then toksFrom f s (i + 1) row
      else if kindU c = 2 then (toksFrom f s (i + 1) (row + 1)).map (⟨2, i, row, ByteArray.empty⟩ :: ·)
      else if kindU c = 4 then
        let n := ((s.data.toList.drop i).takeWhile isL).length
        (toksFrom f s (i + n) row).map (⟨1, i, row, s.extract i (i + n)⟩ :: ·)
      else none
end Go.Proofs.YtdcekoocnoackaaGreatDoor

/-! Lines of a policy's text: plain. -/
namespace Go.Proofs.YtdcekoocnoackaaGreatDoor
open Go Go.RowKit

theorem Tok.enc_length (t : Tok) : t.enc.length = 4 := rfl
theorem Tok.enc_one (t : Tok) : ∀ u ∈ t.enc, u.oneCell' = true := by
  intro u hu
  simp only [Tok.enc, List.mem_cons, List.not_mem_nil, or_false] at hu
  rcases hu with rfl | rfl | rfl | rfl <;> rfl
/-- A line, and where its words stand. -/
structure Ln where
  a : Option Addr
  c : Nat
  toks : List Tok
  fin : Nat
def Ln.v (x : Ln) : Value := .slice x.a x.toks.length x.c
def Ln.enc (x : Ln) : List Value := [x.v, .int .i64 x.fin]
def Ln.plain (x : Ln) : List Tok × Nat := (x.toks, x.fin)
/-- The lines that tokens are, ahead of them a line that is begun. -/
def linesF : List Tok → List Tok → List (List Tok × Nat)
  | [], X => [(X, 0)]
  | t :: r, X => if t.kind = 2 then (X, t.pos) :: linesF r [] else linesF r (X ++ [t])
/-- The words of one line in memory. -/
def lnb (x : Ln) : HP := arr 157 4 x.v x.toks.length (x.toks.flatMap Tok.enc)
def lns : List Ln → HP → HP
  | [], F => F
  | x :: R, F => lnb x • lns R F
theorem lns_app : ∀ (A C : List Ln) (F : HP), lns (A ++ C) F = lns A (lns C F)
  | [], _, _ => rfl
  | x :: A, C, F => by simp only [List.cons_append, lns]; rw [lns_app A C F]
theorem lns_star : ∀ (R : List Ln) (F G : HP), lns R (G • F) = G • lns R F
  | [], _, _ => rfl
  | x :: R, F, G => by simp only [lns]; rw [lns_star R F G, star_left_comm]
theorem lns_filter {B : Nat} {w0 w : World} (p : Ln → Bool) : ∀ (R : List Ln) (F : HP), Sat B w0 w (lns R F) → Sat B w0 w (lns (R.filter p) F)
  | [], _, h => h
  | x :: R, F, h => by
    by_cases hp : p x = true
    · rw [List.filter_cons_of_pos hp]
      simp only [lns] at h ⊢
      rw [← lns_star] at h ⊢
      exact lns_filter p R _ h
    · rw [List.filter_cons_of_neg hp]
      simp only [lns] at h
      exact lns_filter p R F h.drop
theorem linesF_next {T : List Tok} {k : Nat} {t : Tok} (h : T[k]? = some t) (X : List Tok) : linesF (T.drop k) X = if t.kind = 2 then (X, t.pos) :: linesF (T.drop (k + 1)) [] else linesF (T.drop (k + 1)) (X ++ [t]) := by
  obtain ⟨h1, h2⟩ := List.getElem?_eq_some_iff.1 h
  rw [List.drop_eq_getElem_cons h1, h2]
  rfl
theorem Ln.enc_length (t : Ln) : t.enc.length = 2 := rfl
theorem Ln.enc_one (t : Ln) : ∀ u ∈ t.enc, u.oneCell' = true := by
  intro u hu
  simp only [Ln.enc, List.mem_cons, List.not_mem_nil, or_false] at hu
  rcases hu with rfl | rfl <;> rfl
end Go.Proofs.YtdcekoocnoackaaGreatDoor

/-! The policy's text: its words, and its lines. -/
namespace Go.Proofs.YtdcekoocnoackaaGreatDoor
open Go Go.RowKit

def plainB : ByteArray := ⟨#[114, 101, 115, 111, 108, 118, 101, 114, 32, 57, 46, 57, 46, 57, 46, 57, 10, 97, 108, 108, 111, 119, 32, 110, 97, 109, 101, 32, 42, 46, 97, 32, 117, 100, 112, 32, 49, 45, 57, 10, 97, 108, 108, 111, 119, 32, 110, 97, 109, 101, 32, 98, 46, 97, 32, 116, 99, 112, 32, 42, 10, 97, 108, 108, 111, 119, 32, 110, 101, 116, 32, 49, 48, 46, 48, 46, 48, 46, 48, 47, 56, 32, 97, 110, 121, 32, 42, 10]⟩
def line1 : List Tok := [⟨1, 0, 1, ⟨#[114, 101, 115, 111, 108, 118, 101, 114]⟩⟩, ⟨1, 9, 1, ⟨#[57, 46, 57, 46, 57, 46, 57]⟩⟩]
def line2 : List Tok := [⟨1, 17, 2, ⟨#[97, 108, 108, 111, 119]⟩⟩, ⟨1, 23, 2, ⟨#[110, 97, 109, 101]⟩⟩, ⟨1, 28, 2, ⟨#[42, 46, 97]⟩⟩, ⟨1, 32, 2, ⟨#[117, 100, 112]⟩⟩, ⟨1, 36, 2, ⟨#[49, 45, 57]⟩⟩]
def line3 : List Tok := [⟨1, 40, 3, ⟨#[97, 108, 108, 111, 119]⟩⟩, ⟨1, 46, 3, ⟨#[110, 97, 109, 101]⟩⟩, ⟨1, 51, 3, ⟨#[98, 46, 97]⟩⟩, ⟨1, 55, 3, ⟨#[116, 99, 112]⟩⟩, ⟨1, 59, 3, ⟨#[42]⟩⟩]
def line4 : List Tok := [⟨1, 61, 4, ⟨#[97, 108, 108, 111, 119]⟩⟩, ⟨1, 67, 4, ⟨#[110, 101, 116]⟩⟩, ⟨1, 71, 4, ⟨#[49, 48, 46, 48, 46, 48, 46, 48, 47, 56]⟩⟩, ⟨1, 82, 4, ⟨#[97, 110, 121]⟩⟩, ⟨1, 86, 4, ⟨#[42]⟩⟩]
def plainT : List Tok := line1 ++ [⟨2, 16, 1, ⟨#[]⟩⟩] ++ line2 ++ [⟨2, 39, 2, ⟨#[]⟩⟩] ++ line3 ++ [⟨2, 60, 3, ⟨#[]⟩⟩] ++ line4 ++ [⟨2, 87, 4, ⟨#[]⟩⟩] ++ [⟨2, 88, 5, ⟨#[]⟩⟩]
set_option maxRecDepth 20000 in
theorem plain_toks : toksFrom 200 plainB 0 1 = some plainT := by kernel_rfl
theorem plain_kinds : ∀ t ∈ plainT, t.kind = 1 ∨ t.kind = 2 := by
  intro t ht
  simp only [plainT, line1, line2, line3, line4, List.cons_append, List.nil_append, List.mem_cons, List.not_mem_nil, or_false] at ht
  rcases ht with rfl | rfl | rfl | rfl | rfl | rfl | rfl | rfl | rfl | rfl | rfl | rfl | rfl | rfl | rfl | rfl | rfl | rfl | rfl | rfl | rfl | rfl <;> simp
theorem plain_lines : (linesF plainT []).filter (fun x => !x.1.isEmpty) = [(line1, 16), (line2, 39), (line3, 60), (line4, 87)] := by kernel_rfl
end Go.Proofs.YtdcekoocnoackaaGreatDoor

/-! lexer: kind, word. -/
namespace Go.Proofs.YtdcekoocnoackaaGreatDoor
open Go Go.RowKit

set_option maxRecDepth 8000 in
set_option maxHeartbeats 1000000 in
theorem kind_any (b : UInt8) (w : World) : Calls Tryz.prog 58 #[.int .u8 (b.toNat : Int)] w fun e w' => e = .returned (.int .i64 (kindU b)) ∧ w' = w := by
  have key : ∀ n : Nat, n < 256 → (((b.toNat : Int) == (n : Int)) = decide (b = UInt8.ofNat n)) := by
    intro n hn
    rw [Bool.eq_iff_iff]
    simp only [beq_iff_eq, decide_eq_true_eq]
    constructor
    · intro h; have : b.toNat = n := by omega
      rw [← this]; simp
    · rintro rfl; simp; omega
  have k9 := key 9 (by decide)
  have k13 := key 13 (by decide)
  have k32 := key 32 (by decide)
  have k10 := key 10 (by decide)
  have k35 := key 35 (by decide)
  simp only [show ((9 : Nat) : Int) = 9 from rfl, show ((13 : Nat) : Int) = 13 from rfl, show ((32 : Nat) : Int) = 32 from rfl, show ((10 : Nat) : Int) = 10 from rfl, show ((35 : Nat) : Int) = 35 from rfl, show UInt8.ofNat 9 = 9 from rfl, show UInt8.ofNat 13 = 13 from rfl, show UInt8.ofNat 32 = 32 from rfl, show UInt8.ofNat 10 = 10 from rfl, show UInt8.ofNat 35 = 35 from rfl] at k9 k13 k32 k10 k35
  clear key
  have hlo : (32 < b.toNat) = ((32 : Int) < (b.toNat : Int)) := by rw [eq_iff_iff]; omega
  have hhi : (b.toNat ≤ 126) = ((b.toNat : Int) ≤ 126) := by rw [eq_iff_iff]; omega
  unfold kindU
  simp only [hlo, hhi]
  clear hlo hhi
  by_cases h9 : b = 9
  · rw [if_pos h9]
    rw [decide_eq_true h9] at k9
    clear h9 k13 k32 k10 k35
    generalize (b.toNat : Int) = c at *
    go_enter Tryz.func58, Tryz.ntmps58
    go_wp2_with fail
    go_ret
    exact ⟨rfl, rfl⟩
  rw [if_neg h9]
  rw [decide_eq_false h9] at k9
  by_cases h13 : b = 13
  · rw [if_pos h13]
    rw [decide_eq_true h13] at k13
    clear h9 h13 k32 k10 k35
    generalize (b.toNat : Int) = c at *
    go_enter Tryz.func58, Tryz.ntmps58
    go_wp2_with fail
    go_ret
    exact ⟨rfl, rfl⟩
  rw [if_neg h13]
  rw [decide_eq_false h13] at k13
  by_cases h32 : b = 32
  · rw [if_pos h32]
    rw [decide_eq_true h32] at k32
    clear h9 h13 h32 k10 k35
    generalize (b.toNat : Int) = c at *
    go_enter Tryz.func58, Tryz.ntmps58
    go_wp2_with fail
    go_ret
    exact ⟨rfl, rfl⟩
  rw [if_neg h32]
  rw [decide_eq_false h32] at k32
  by_cases h10 : b = 10
  · rw [if_pos h10]
    rw [decide_eq_true h10] at k10
    clear h9 h13 h32 h10 k35
    generalize (b.toNat : Int) = c at *
    go_enter Tryz.func58, Tryz.ntmps58
    go_wp2_with fail
    go_ret
    exact ⟨rfl, rfl⟩
  rw [if_neg h10]
  rw [decide_eq_false h10] at k10
  by_cases h35 : b = 35
  · rw [if_pos h35]
    rw [decide_eq_true h35] at k35
    clear h9 h13 h32 h10 h35
    generalize (b.toNat : Int) = c at *
    go_enter Tryz.func58, Tryz.ntmps58
    go_wp2_with fail
    go_ret
    exact ⟨rfl, rfl⟩
  rw [if_neg h35]
  rw [decide_eq_false h35] at k35
  clear h9 h13 h32 h10 h35
  generalize (b.toNat : Int) = c at *
  by_cases hl : 32 < c
  · by_cases hh : c ≤ 126
    · rw [if_pos ⟨hl, hh⟩]
      go_enter Tryz.func58, Tryz.ntmps58
      go_wp2_with fail
      go_ret
      exact ⟨rfl, rfl⟩
    · rw [if_neg (fun h => hh h.2)]
      go_enter Tryz.func58, Tryz.ntmps58
      go_wp2_with fail
      go_ret
      exact ⟨rfl, rfl⟩
  · rw [if_neg (fun h => hl h.1)]
    go_enter Tryz.func58, Tryz.ntmps58
    go_wp2_with fail
    go_ret
    exact ⟨rfl, rfl⟩
/-- The byte at a place. -/
theorem ba_at {s : ByteArray} {k : Nat} {c : UInt8} (h : s.data.toList[k]? = some c) : ∃ h' : k < s.size, s[k] = c := by
  obtain ⟨h1, h2⟩ := List.getElem?_eq_some_iff.1 h
  exact ⟨by simpa using h1, by rw [← h2]; simp [ByteArray.getElem_eq_getElem_data]⟩
set_option maxRecDepth 8000 in
set_option maxHeartbeats 1000000 in
theorem word_any (s : ByteArray) (hs : s.size ≤ 140737488355328) (w : World) : Calls Tryz.prog 61 #[.string s] w fun e w' => e = .returned (.int .i64 ((s.data.toList.takeWhile isL).length : Int)) ∧ w' = w := by
  generalize hR : (s.data.toList.takeWhile isL).length = R
  have HR := Lib.hid hR
  clear hR
  go_enter Tryz.func61, Tryz.ntmps61
  go_wp2_with fail
  go_loopw [3] (fun i wr => ∃ k : Nat, k ≤ s.size ∧ i = .int .i64 k ∧ wr = w ∧ Hid (∀ j c, j < k → s.data.toList[j]? = some c → isL c = true)) (fun i _ => s.size - (intOf i).toNat)
  case atStart => exact ⟨0, Nat.zero_le _, rfl, rfl, Lib.hid fun j y hj => absurd hj (Nat.not_lt_zero _)⟩
  case round =>
    obtain ⟨k, hk, rfl, rfl, HK⟩ := hrel
    by_cases hlt : k < s.size
    · obtain ⟨c, hc⟩ : ∃ c, s.data.toList[k]? = some c := ⟨_, List.getElem?_eq_getElem (by simpa using hlt)⟩
      obtain ⟨h1, h2⟩ := ba_at hc
      have hlz : (k : Int) < (s.size : Int) := by omega
      have c1 := kind_any c wr
      have HC := Lib.hid hc
      clear hc
      go_wp2_with fail
      refine c1.mono ?_
      rintro e w1 ⟨rfl, rfl⟩
      cases hL : isL c with
      | true =>
        have hq : (kindU c == 4) = true := hL
        go_wp2_with fail
        go_roundw
        case rel =>
          refine ⟨k + 1, by omega, by go_num, trivial, Lib.hid fun j x hj hx => ?_⟩
          by_cases he : j = k
          · subst he; rw [HC.out] at hx; cases hx; exact hL
          · exact HK.out j x (by omega) hx
        case measure => simp [intOf]; omega
      | false =>
        have hq : (kindU c == 4) = false := hL
        have he := tw_len s.data.toList k HK.out (by simpa using hk) (fun x hx => by rw [HC.out] at hx; cases hx; exact hL)
        obtain rfl : R = k := HR.out.symm.trans he
        clear he
        go_wp2_with fail
        go_ret
        exact ⟨rfl, rfl⟩
    · obtain rfl : k = s.size := by omega
      have he := tw_len s.data.toList s.size HK.out (by simp) (fun x hx => by rw [List.getElem?_eq_none (by simp)] at hx; cases hx)
      obtain rfl : R = s.size := HR.out.symm.trans he
      clear he
      go_wp2_with fail
      go_ret
      exact ⟨rfl, rfl⟩
end Go.Proofs.YtdcekoocnoackaaGreatDoor
