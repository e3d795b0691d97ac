import Derived.Test.YtdcekoocnoackaaGreatDoorPart17
import Derived.Test.YtdcekoocnoackaaGreatDoorPart12
import Derived.WalkKit
import Derived.Laws.BitsAllLaws

/-! Bytes: Put, set, bytesOf of the reference. -/
namespace Go.Proofs.YtdcekoocnoackaaGreatDoor
open Go Go.RowKit

def byv (bs : List Int) : List Value := bs.map (Value.int .u8)
theorem byv_app (a b : List Int) : byv (a ++ b) = byv a ++ byv b := by simp [byv]
theorem byv_len (a : List Int) : (byv a).length = a.length := by simp [byv]
theorem byv_one (a : List Int) : ∀ u ∈ byv a, u.oneCell' = true := by
  intro u hu
  simp only [byv, List.mem_map] at hu
  obtain ⟨x, _, rfl⟩ := hu
  rfl
/-- Bytes of one's own. -/
def byt (v : Value) (bs : List Int) : HP := arr 5 1 v bs.length (byv bs)
section
variable {B : Nat} {w0 w : World} {F : HP} {v x : Value} {a b bs : List Int}
theorem byt_nil (h : Sat B w0 w F) : Sat B w0 w (byt (.slice none 0 0) [] • F) := arr_nil h
theorem Sat.bytApp (h : Sat B w0 w (byt v a • F)) (hx : Reads w x b.length (byv b)) (hl : a.length + b.length ≤ 5000) :
    ∃ v' w', (Builtin.append_ #[32, 32] 32 #[v, x]).run Tryz.prog w = .ok v' w' ∧ Sat B w0 w' (byt v' (a ++ b) • F) := by
  obtain ⟨v', w', hr, hS⟩ := Sat.append (P := Tryz.prog) (t := 32) (ty := 32) (z := .int .u8 0) (bytes := 1) (m := b.length) (news := byv b) (x := x) (show Sat B w0 w (arr 5 1 v a.length (byv a) • F) from h) Tryz.underlying32 (by kernel_rfl) rfl (by decide) hx (by rw [byv_len, Nat.mul_one]) (byv_one b) (by unfold maxLen; omega) (by omega)
  refine ⟨v', w', hr, ?_⟩
  unfold byt
  rw [List.length_append, byv_app]
  exact hS
theorem Sat.bytReads (h : Sat B w0 w (byt v bs • F)) : Reads w v bs.length (byv bs) := Sat.arr_reads (show Sat B w0 w (arr 5 1 v bs.length (byv bs) • F) from h)
theorem Sat.bytForm (h : Sat B w0 w (byt v bs • F)) : ∃ A c, v = .slice A bs.length c := Sat.arr_form (show Sat B w0 w (arr 5 1 v bs.length (byv bs) • F) from h)
/-- A literal's bytes are there to be read. -/
theorem reads_lit {bs : List Int} {n c : Nat} (hn : n = bs.length) : Reads (w.alloc (.cells (byv bs).toArray 5)) (.slice (some ⟨w.heap.size, 0, none⟩) n c) bs.length (byv bs) := by
  subst hn
  exact reads_new (cs := byv bs)
end
set_option maxRecDepth 8000 in
set_option maxHeartbeats 4000000 in
theorem put2_any {B : Nat} {w0 w : World} {F : HP} {v : Value} {bs : List Int} (x : Int) (h1 : 0 ≤ x) (h2 : x < 65536) (hl : bs.length ≤ 2000) (h : Sat B w0 w (byt v bs • F)) :
    Calls Tryz.prog 76 #[v, .int .i64 x, .int .i64 2] w fun e w' => ∃ v', e = .returned v' ∧ Sat B w0 w' (byt v' (bs ++ [x / 256, x % 256]) • byt v bs • F) := by
  have h0 := byt_nil h
  obtain ⟨v1, w1, hr1, hS1⟩ := h0.bytApp (h0.pull2.bytReads) (by simp; omega)
  rw [List.nil_append] at hS1
  obtain ⟨A1, c1, rfl⟩ := hS1.bytForm
  have hA1 := hS1.alloc (.cells (byv [x / 256]).toArray 5)
  obtain ⟨v2, w2, hr2, hS2⟩ := hA1.pull2.bytApp (b := [x / 256]) (reads_lit (n := 1) (c := 1) rfl) (by simp; omega)
  obtain ⟨A2, c2, rfl⟩ := hS2.bytForm
  have hA2 := hS2.alloc (.cells (byv [x % 256]).toArray 5)
  obtain ⟨v3, w3, hr3, hS3⟩ := hA2.pull2.bytApp (b := [x % 256]) (reads_lit (n := 1) (c := 1) rfl) (by simp; omega)
  have HF := Lib.hid hS3
  simp only [List.length_append, List.length_cons, List.length_nil, Nat.zero_add] at hr2 hr3
  clear h h0 hS1 hA1 hS2 hA2 hS3
  go_enter Tryz.func76, Tryz.ntmps76
  go_wp2_with (at_builtin; refine wpList_append_run rfl _ _ _ rfl rfl rfl hr1 (stop_ ?_))
  unfold Stop
  clear hr1
  go_wp2_with fail
  refine wp_loop_rounds 3 ?_
  rw [rounds_succ]
  go_wp2_with (at_builtin; refine wpList_append_run rfl _ _ _ rfl rfl rfl hr2 (stop_ ?_))
  unfold Stop
  clear hr2
  go_wp2_with fail
  rw [rounds_succ]
  go_wp2_with (at_builtin; refine wpList_append_run rfl _ _ _ rfl rfl rfl hr3 (stop_ ?_))
  unfold Stop
  clear hr3
  go_wp2_with fail
  rw [rounds_succ]
  go_wp2_with fail
  go_ret
  have h9 := HF.out.pull2.drop.pull2.drop
  rw [List.append_assoc] at h9
  exact ⟨v3, rfl, h9⟩
set_option maxRecDepth 8000 in
set_option maxHeartbeats 2000000 in
theorem bytesOf_4 {B : Nat} {w0 w : World} {F : HP} (p q r s : Int) (h : Sat B w0 w F) :
    Calls Tryz.prog 141 #[.agg #[.bool false, .int .u8 p, .int .u8 q, .int .u8 r, .int .u8 s, .int .u8 0, .int .u8 0, .int .u8 0, .int .u8 0, .int .u8 0, .int .u8 0, .int .u8 0, .int .u8 0, .int .u8 0, .int .u8 0, .int .u8 0, .int .u8 0], .bool false] w fun e w' => ∃ v', e = .returned v' ∧ Sat B w0 w' (byt v' [p, q, r, s] • F) := by
  have hS1 := h.alloc (.cells #[.bool false, .int .u8 p, .int .u8 q, .int .u8 r, .int .u8 s, .int .u8 0, .int .u8 0, .int .u8 0, .int .u8 0, .int .u8 0, .int .u8 0, .int .u8 0, .int .u8 0, .int .u8 0, .int .u8 0, .int .u8 0, .int .u8 0] 36)
  have h0 := byt_nil hS1
  have hrd : Reads (w.alloc (.cells #[.bool false, .int .u8 p, .int .u8 q, .int .u8 r, .int .u8 s, .int .u8 0, .int .u8 0, .int .u8 0, .int .u8 0, .int .u8 0, .int .u8 0, .int .u8 0, .int .u8 0, .int .u8 0, .int .u8 0, .int .u8 0, .int .u8 0] 36)) (.slice (some ⟨w.heap.size, 1, none⟩) 4 16) 4 (byv [p, q, r, s]) := .inr ⟨_, _, rfl, fun j u hu => by
    rw [Addr.add_lit]
    refine cell_heap hS1.heap ?_
    match j, hu with
    | 0, hu => simpa [byv] using hu
    | 1, hu => simpa [byv] using hu
    | 2, hu => simpa [byv] using hu
    | 3, hu => simpa [byv] using hu
    | (j + 4), hu => simp [byv] at hu⟩
  obtain ⟨v1, w1, hr1, hS2⟩ := h0.bytApp (b := [p, q, r, s]) hrd (by simp)
  rw [List.nil_append] at hS2
  have HF := Lib.hid (hS2.pull2.drop)
  clear h h0 hS1 hS2 hrd
  go_enter Tryz.func141, Tryz.ntmps141
  go_wp2_with (at_builtin; refine wpList_append_run rfl _ _ _ rfl rfl rfl hr1 (stop_ ?_))
  unfold Stop
  clear hr1
  go_wp2_with fail
  go_ret
  exact ⟨v1, rfl, HF.out⟩
/-- The bytes at a place are two others. -/
def setB (bs : List Int) (k : Nat) (a b : Int) : List Int := (bs.set k a).set (k + 1) b
set_option maxRecDepth 8000 in
set_option maxHeartbeats 2000000 in
theorem set_any {B : Nat} {w0 w : World} {F : HP} {v : Value} {bs : List Int} (k : Nat) (x : Int) (h1 : 0 ≤ x) (h2 : x < 65536) (hl : bs.length ≤ 2000) (hk : k + 1 < bs.length) (h : Sat B w0 w (byt v bs • F)) :
    Calls Tryz.prog 77 #[v, .int .i64 k, .int .i64 x] w fun e w' => ∃ v', e = .returned v' ∧ Sat B w0 w' (byt v' (setB bs k (x / 256) (x % 256)) • byt v bs • F) := by
  have h0 := byt_nil h
  obtain ⟨v1, w1, hr1, hS1⟩ := h0.bytApp (h0.pull2.bytReads) (by simp; omega)
  rw [List.nil_append] at hS1
  obtain ⟨g, cap, cur, rfl, q1, q2, q3, q4, hO⟩ : ∃ g cap cur, v1 = .slice (some ⟨g, 0, none⟩) bs.length cap ∧ bs.length ≤ cap ∧ cap ≤ maxLen ∧ cur.size = cap * 1 ∧ cur.toList.take (bs.length * 1) = byv bs ∧ Sat B w0 w1 (blk g (.cells cur 5 (0, 0)) • byt v bs • F) := by
    rcases Sat.arr_open (show Sat B w0 w1 (arr 5 1 v1 bs.length (byv bs) • byt v bs • F) from hS1) with ⟨_, h0, _, _⟩ | hh
    · omega
    · exact hh
  obtain ⟨W2, hst2, hS2⟩ := one_storeS (o := k) (ty := 5) (u := .int .u8 (x / 256)) hO (by kernel_rfl) (by omega) rfl rfl
  obtain ⟨W3, hst3, hS3⟩ := one_storeS (o := k + 1) (ty := 5) (u := .int .u8 (x % 256)) hS2 (by kernel_rfl) (by rw [Array.size_setIfInBounds]; omega) rfl rfl
  have hfin : Sat B w0 W3 (byt (.slice (some ⟨g, 0, none⟩) bs.length cap) (setB bs k (x / 256) (x % 256)) • byt v bs • F) := by
    unfold byt setB
    rw [List.length_set, List.length_set]
    refine Sat.arr_shut q1 q2 (by rw [Array.size_setIfInBounds, Array.size_setIfInBounds]; exact q3) ?_ hS3
    rw [Array.toList_setIfInBounds, Array.toList_setIfInBounds, List.take_set, List.take_set, q4]
    simp [byv, List.map_set]
  have HF := Lib.hid hfin
  have e1 : (k : Int) < (bs.length : Int) := by omega
  have e2 : (k : Int) + 1 < (bs.length : Int) := by omega
  have e3 : (k : Int) ≤ 2000 := by omega
  have e4 : k ≤ 2000 := by omega
  clear h h0 hS1 hO hS2 hS3 hfin q3 q4 hl
  go_enter Tryz.func77, Tryz.ntmps77
  go_wp2_with (at_builtin; refine wpList_append_run rfl _ _ _ rfl rfl rfl hr1 (stop_ ?_))
  unfold Stop
  clear hr1
  go_wp2_with (refine wpList_store_run (t := 5) rfl rfl rfl rfl hst2 (stop_ ?_))
  unfold Stop
  clear hst2
  go_wp2_with (refine wpList_store_run (t := 5) rfl rfl rfl rfl hst3 (stop_ ?_))
  unfold Stop
  clear hst3
  go_wp2_with fail
  go_ret
  exact ⟨_, rfl, HF.out⟩
end Go.Proofs.YtdcekoocnoackaaGreatDoor

/-! A byte beneath another one. -/
namespace Go.Proofs.YtdcekoocnoackaaGreatDoor
open Go Go.RowKit

theorem nat_or_mul (a b : Nat) (h : b < 256) : a * 256 ||| b = a * 256 + b := by
  rw [show a * 256 = a <<< 8 by rw [Nat.shiftLeft_eq], Nat.shiftLeft_add_eq_or_of_lt (by omega)]
theorem i64_or_nat (a b : Nat) (ha : a < 4611686018427387904) (hb : b < 4611686018427387904) : bits .or .i64 (a : Int) (b : Int) = ((a ||| b : Nat) : Int) := by
  have hx : a ||| b < 2 ^ 62 := Nat.or_lt_two_pow (by omega) (by omega)
  have ea : (BitVec.ofInt 64 (a : Int)).toNat = a := by rw [BitVec.ofInt_natCast, BitVec.toNat_ofNat]; exact Nat.mod_eq_of_lt (by omega)
  have eb : (BitVec.ofInt 64 (b : Int)).toNat = b := by rw [BitVec.ofInt_natCast, BitVec.toNat_ofNat]; exact Nat.mod_eq_of_lt (by omega)
  show IntKind.i64.wrap ((BitVec.ofInt 64 (a : Int) ||| BitVec.ofInt 64 (b : Int)).toNat : Int) = _
  rw [BitVec.toNat_or, ea, eb]
  simp only [IntKind.wrap, IntKind.bits, IntKind.signed]
  simp
  omega
theorem or_i64 (a b : Int) (h1 : 0 ≤ a) (h2 : a < 256) (h3 : 0 ≤ b) (h4 : b < 256) : bits .or .i64 (a * 256) b = a * 256 + b := by
  obtain ⟨x, rfl⟩ := Int.eq_ofNat_of_zero_le h1
  obtain ⟨y, rfl⟩ := Int.eq_ofNat_of_zero_le h3
  rw [show ((x : Int) * 256) = ((x * 256 : Nat) : Int) by omega, i64_or_nat _ _ (by omega) (by omega), nat_or_mul _ _ (by omega)]
  omega
theorem or_u32 (a b : Int) (h1 : 0 ≤ a) (h2 : a < 256) (h3 : 0 ≤ b) (h4 : b < 256) : bits .or .u32 (a * 256) b = a * 256 + b := by
  obtain ⟨x, rfl⟩ := Int.eq_ofNat_of_zero_le h1
  obtain ⟨y, rfl⟩ := Int.eq_ofNat_of_zero_le h3
  rw [show ((x : Int) * 256) = ((x * 256 : Nat) : Int) by omega, u32_or_nat _ _ (by omega) (by omega), nat_or_mul _ _ (by omega)]
  omega
end Go.Proofs.YtdcekoocnoackaaGreatDoor

/-! The reference's Sum. -/
namespace Go.Proofs.YtdcekoocnoackaaGreatDoor
open Go Go.RowKit

/-- The sum of words of two bytes. -/
def wsum : List Int → Int
  | a :: b :: r => a * 256 + b + wsum r
  | [a] => a * 256
  | [] => 0
theorem wsum_app : ∀ (k : Nat) (l : List Int) (a b : Int), l.length = 2 * k → wsum (l ++ [a, b]) = wsum l + (a * 256 + b)
  | 0, l, a, b, h => by
    have : l = [] := List.eq_nil_of_length_eq_zero (by omega)
    subst this; simp [wsum]
  | k + 1, l, a, b, h => by
    match l, h with
    | x :: y :: r, h =>
      have := wsum_app k r a b (by simp at h; omega)
      simp only [List.cons_append, wsum]
      rw [this]; omega
    | [x], h => simp at h; omega
    | [], h => simp at h
theorem wsum_nonneg : ∀ (l : List Int), (∀ b ∈ l, 0 ≤ b) → 0 ≤ wsum l
  | [], _ => by simp [wsum]
  | [a], h => by have := h a (by simp); simp [wsum]; omega
  | a :: b :: r, h => by
    have h1 := h a (by simp); have h2 := h b (by simp)
    have := wsum_nonneg r (fun x hx => h x (by simp [hx]))
    simp only [wsum]; omega
theorem wsum_take_le : ∀ (k : Nat) (l : List Int), (∀ b ∈ l, 0 ≤ b) → 2 * k ≤ l.length → wsum (l.take (2 * k)) ≤ wsum l
  | 0, l, h, _ => by simp [wsum]; exact wsum_nonneg l h
  | k + 1, l, h, hk => by
    match l, hk with
    | x :: y :: r, hk =>
      have := wsum_take_le k r (fun z hz => h z (by simp [hz])) (by simp at hk; omega)
      rw [show 2 * (k + 1) = 2 * k + 1 + 1 by omega]
      simp only [List.take_succ_cons, wsum]; omega
    | [x], hk => simp at hk; omega
    | [], hk => simp at hk
/-- Bytes that are bytes. -/
def Byt8 (bs : List Int) : Prop := ∀ b ∈ bs, 0 ≤ b ∧ b < 256
set_option maxRecDepth 8000 in
set_option maxHeartbeats 4000000 in
theorem rsum_any {B : Nat} {w0 w : World} {F : HP} {v : Value} {bs : List Int} (hb : Byt8 bs) (m : Nat) (hm : bs.length = 2 * m) (hl : m ≤ 1000) (hs : wsum bs ≤ 65535) (h : Sat B w0 w (byt v bs • F)) (hpos : 0 < m) :
    Calls Tryz.prog 82 #[v] w fun e w' => e = .returned (.int .i64 (65535 - wsum bs)) ∧ w' = w := by
  obtain ⟨A, c, rfl⟩ := h.bytForm
  obtain ⟨g, rfl, hcell⟩ : ∃ g, A = some ⟨g, 0, none⟩ ∧ ∀ (j : Nat) (u : Int), bs[j]? = some u → w.cell? ⟨g, j, none⟩ = some (.int .u8 u) := by
    rcases h.bytReads with ⟨_, hv, h0, _⟩ | ⟨a, c', hv, hc⟩
    · omega
    · rcases Sat.arr_open (show Sat B w0 w (arr 5 1 (.slice A bs.length c) bs.length (byv bs) • F) from h) with ⟨_, h0, _, _⟩ | ⟨g, cap, cur, hv2, _⟩
      · omega
      · simp only [Value.slice.injEq] at hv2
        obtain ⟨rfl, _, rfl⟩ := hv2
        cases hv
        refine ⟨g, rfl, fun j u hu => ?_⟩
        have := hc j (.int .u8 u) (by simp [byv, hu])
        rw [Addr.add_lit] at this
        simpa using this
  have HC := Lib.hid hcell
  have HB := Lib.hid hb
  have HS := Lib.hid hs
  clear h hcell hb hs
  go_enter Tryz.func82, Tryz.ntmps82
  go_wp2_with fail
  go_loopw [3, 4] (fun sv si wr => ∃ k : Nat, k ≤ m ∧ si = .int .i64 (2 * (k : Int)) ∧ sv = .int .i64 (wsum (bs.take (2 * k))) ∧ wr = w) (fun _ si _ => 2 * m - (intOf si).toNat)
  case atStart => exact ⟨0, Nat.zero_le _, rfl, rfl, rfl⟩
  case round =>
    obtain ⟨k, hk, rfl, rfl, rfl⟩ := hrel
    by_cases hlt : k < m
    · obtain ⟨a, ha⟩ : ∃ a, bs[2 * k]? = some a := ⟨_, List.getElem?_eq_getElem (by omega)⟩
      obtain ⟨b, hbb⟩ : ∃ b, bs[2 * k + 1]? = some b := ⟨_, List.getElem?_eq_getElem (by omega)⟩
      have d0 := HC.out _ _ ha
      have d1 := HC.out _ _ hbb
      have ra := HB.out a (List.mem_of_getElem? ha)
      have rb := HB.out b (List.mem_of_getElem? hbb)
      have ht : wsum (bs.take (2 * (k + 1))) = wsum (bs.take (2 * k)) + (a * 256 + b) := by
        rw [← wsum_app k (bs.take (2 * k)) a b (by rw [List.length_take]; omega)]
        congr 1
        rw [show 2 * (k + 1) = 2 * k + 1 + 1 by omega, List.take_add_one, List.take_add_one, hbb, ha]; simp
      have hle := wsum_take_le (k + 1) bs (fun x hx => (HB.out x hx).1) (by omega)
      have h0 := wsum_nonneg (bs.take (2 * k)) (fun x hx => (HB.out x (List.mem_of_mem_take hx)).1)
      have hS := HS.out
      have HT := Lib.hid ht
      have hv2 : wsum (bs.take (2 * k)) + (a * 256 + b) ≤ 65535 := by omega
      generalize wsum (bs.take (2 * k)) = v0 at *
      obtain ⟨ra1, ra2⟩ := ra
      obtain ⟨rb1, rb2⟩ := rb
      clear ha hbb ht hle hS
      have e1 : 2 * (k : Int) < (bs.length : Int) := by omega
      have e2 : 2 * (k : Int) + 1 < (bs.length : Int) := by omega
      have e3 : (2 * (k : Int)).toNat = 2 * k := by omega
      have e4 : (2 * (k : Int) + 1).toNat = 2 * k + 1 := by omega
      have hor := or_i64 a b ra1 ra2 rb1 rb2
      have e6 : ¬ (65535 : Int) < v0 + (a * 256 + b) := by omega
      go_wp2_with fail
      go_roundw
      case rel => exact ⟨k + 1, by omega, by go_num, by rw [HT.out], trivial⟩
      case measure => simp [intOf]; omega
    · obtain rfl : k = m := by omega
      have e1 : ¬ 2 * (k : Int) < (bs.length : Int) := by omega
      have hS := HS.out
      have h0 := wsum_nonneg bs (fun x hx => (HB.out x hx).1)
      rw [List.take_of_length_le (by omega)]
      clear HC HB
      go_wp2_with fail
      go_ret
      exact ⟨rfl, rfl⟩
end Go.Proofs.YtdcekoocnoackaaGreatDoor

/-! Bytes that are read: octets.U16, sum.Of. -/
namespace Go.Proofs.YtdcekoocnoackaaGreatDoor
open Go Go.RowKit

/-- Bytes stand at a place. -/
def Vw (w : World) (g o : Nat) (bs : List Int) : Prop := ∀ (j : Nat) (u : Int), bs[j]? = some u → w.cell? ⟨g, o + j, none⟩ = some (.int .u8 u)
theorem Vw.below {w w' : World} {g o : Nat} {bs : List Int} (h : Vw w g o bs) (hb : Below w.heap.size w w') : Vw w' g o bs := fun j u hu => by
  rw [hb.cell (World.block_lt_of_cell? _ _ (h j u hu))]; exact h j u hu
theorem Vw.drop {w : World} {g o : Nat} {bs : List Int} (h : Vw w g o bs) (k : Nat) : Vw w g (o + k) (bs.drop k) := fun j u hu => by
  rw [List.getElem?_drop] at hu
  rw [Nat.add_assoc]; exact h _ u hu
theorem Vw.take {w : World} {g o : Nat} {bs : List Int} (h : Vw w g o bs) (k : Nat) : Vw w g o (bs.take k) := fun j u hu => by
  rw [List.getElem?_take] at hu
  split at hu
  · exact h j u hu
  · cases hu
theorem Vw.reads {w : World} {g o c : Nat} {bs : List Int} (h : Vw w g o bs) : Reads w (.slice (some ⟨g, o, none⟩) bs.length c) bs.length (byv bs) := .inr ⟨_, _, rfl, fun j u hu => by
  rw [Addr.add_lit]
  simp only [byv, List.getElem?_map, Option.map_eq_some_iff] at hu
  obtain ⟨x, hx, rfl⟩ := hu
  exact h j x hx⟩
theorem Sat.bytVw {B : Nat} {w0 w : World} {F : HP} {v : Value} {bs : List Int} (h : Sat B w0 w (byt v bs • F)) (hp : 0 < bs.length) : ∃ g c, v = .slice (some ⟨g, 0, none⟩) bs.length c ∧ bs.length ≤ c ∧ Vw w g 0 bs := by
  rcases Sat.arr_open (show Sat B w0 w (arr 5 1 v bs.length (byv bs) • F) from h) with ⟨_, h0, _, _⟩ | ⟨g, cap, cur, rfl, q1, q2, q3, q4, hO⟩
  · omega
  · refine ⟨g, cap, rfl, q1, fun j u hu => ?_⟩
    rw [Nat.zero_add]
    refine cell_heap hO.heap ?_
    have : (byv bs)[j]? = some (.int .u8 u) := by simp [byv, hu]
    rw [← q4, List.getElem?_take] at this
    split at this
    · simpa using this
    · cases this
theorem slice8_lh {w : World} {g o n m lo hi : Nat} (h1 : lo ≤ hi) (h2 : hi ≤ m) (h3 : lo < m) :
    (Instr.sliceAt 32 (.slice (some ⟨g, o, none⟩) n m) (some (.int .i64 lo)) (some (.int .i64 hi)) none).run Tryz.prog w = .ok (.slice (some ⟨g, o + lo, none⟩) (hi - lo) (m - lo)) w := by
  have hel : Tryz.prog.elem 32 = 5 := by simp [Program.elem, Tryz.underlying32]
  have ht' : Tryz.prog.underlying 32 = some (.slice (Tryz.prog.elem 32)) := by rw [hel]; exact Tryz.underlying32
  obtain ⟨i, hi', hz⟩ := Option.map_eq_some_iff.1 (show (Tryz.prog.info? 5).map (·.size) = some 1 by kernel_rfl)
  rw [run_sliceAt_slice (h := ht'), run_slice_lh (ht := ht') (kl := .i64) (kh := .i64) (l := (lo : Int)) (h := (hi : Int)) (h0 := by omega) (h1 := by omega) (h2 := by omega), hel]
  simp only [sizeOf, typeInfo, Sem.run_bind, run_program, hi', Sem.run_pure, Result.andThen_ok, hz]
  unfold sliced
  rw [if_neg (by simp; omega)]
  simp [Addr.add_lit]
set_option maxRecDepth 8000 in
set_option maxHeartbeats 2000000 in
theorem oask_any {A : Option Addr} {n c k : Nat} (h : k + 2 ≤ n) (hn : n ≤ 2000) (w : World) : Calls Tryz.prog 296 #[.slice A n c, .int .i64 k, .int .i64 2] w fun e w' => e = .returned .nilIface ∧ w' = w := by
  have e1 : (n : Int) ≤ 2000 := by omega
  have e2 : ¬ (n : Int) - 2 < (k : Int) := by omega
  have e3 : (2 : Int) ≤ n := by omega
  go_enter Tryz.func296, Tryz.ntmps296
  go_wp2_with fail
  go_ret
  exact ⟨rfl, rfl⟩
set_option maxRecDepth 8000 in
set_option maxHeartbeats 4000000 in
theorem onum_any {w : World} {g o c k : Nat} {bs : List Int} {a b : Int} (hv : Vw w g o bs) (ha : bs[k]? = some a) (hb : bs[k + 1]? = some b) (a1 : 0 ≤ a) (a2 : a < 256) (b1 : 0 ≤ b) (b2 : b < 256) (hn : bs.length ≤ 2000) (hc : bs.length ≤ c) :
    Calls Tryz.prog 261 #[.slice (some ⟨g, o, none⟩) bs.length c, .int .i64 k, .int .i64 2] w fun e w' => e = .returned (.tuple #[.int .u32 (a * 256 + b), .nilIface]) ∧ w' = w := by
  have hk : k + 1 < bs.length := (List.getElem?_eq_some_iff.1 hb).1
  have c1 := oask_any (A := some ⟨g, o, none⟩) (n := bs.length) (c := c) (k := k) (by omega) hn w
  have hsl := slice8_lh (w := w) (g := g) (o := o) (n := bs.length) (m := c) (lo := k) (hi := k + 2) (by omega) (by omega) (by omega)
  rw [show k + 2 - k = 2 by omega, show ((k + 2 : Nat) : Int) = (k : Int) + 2 by omega] at hsl
  have d0 : w.cell? ⟨g, o + k, none⟩ = some (.int .u8 a) := hv k a ha
  have d1 : w.cell? ⟨g, o + k + 1, none⟩ = some (.int .u8 b) := by rw [Nat.add_assoc]; exact hv (k + 1) b hb
  have e1 : (k : Int) ≤ 2000 := by omega
  have o1 : bits .or .u32 0 a = a := by have := or_u32 0 a (by decide) (by decide) a1 a2; simpa using this
  have o2 := or_u32 a b a1 a2 b1 b2
  clear hv ha hb
  generalize bs.length = n at *
  generalize o + k = q at *
  generalize c - k = m at *
  go_enter Tryz.func261, Tryz.ntmps261
  go_wp2_with fail
  refine c1.mono ?_
  rintro e w1 ⟨rfl, rfl⟩
  clear c1
  go_wp2_with fail
  clear hsl
  refine wp_loop_rounds 3 ?_
  rw [rounds_succ]
  go_wp2_with fail
  rw [rounds_succ]
  go_wp2_with fail
  rw [rounds_succ]
  go_wp2_with fail
  go_ret2
  exact ⟨rfl, rfl⟩
set_option maxRecDepth 8000 in
set_option maxHeartbeats 2000000 in
theorem u16_any {w : World} {g o c k : Nat} {bs : List Int} {a b : Int} (hv : Vw w g o bs) (ha : bs[k]? = some a) (hb : bs[k + 1]? = some b) (a1 : 0 ≤ a) (a2 : a < 256) (b1 : 0 ≤ b) (b2 : b < 256) (hn : bs.length ≤ 2000) (hc : bs.length ≤ c) :
    Calls Tryz.prog 206 #[.slice (some ⟨g, o, none⟩) bs.length c, .int .i64 k] w fun e w' => e = .returned (.tuple #[.int .i64 (a * 256 + b), .nilIface]) ∧ w' = w := by
  have c1 := onum_any hv ha hb a1 a2 b1 b2 hn hc
  clear hv ha hb
  generalize bs.length = n at *
  go_enter Tryz.func206, Tryz.ntmps206
  go_wp2_with fail
  refine c1.mono ?_
  rintro e w1 ⟨rfl, rfl⟩
  go_wp2_with fail
  go_ret2
  exact ⟨rfl, rfl⟩
end Go.Proofs.YtdcekoocnoackaaGreatDoor
