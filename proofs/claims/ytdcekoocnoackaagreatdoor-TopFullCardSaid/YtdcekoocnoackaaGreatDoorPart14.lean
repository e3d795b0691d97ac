import Derived.Test.YtdcekoocnoackaaGreatDoorPart12
import Derived.Test.YtdcekoocnoackaaGreatDoorPart06
import Derived.Shelf.Abstract
import Derived.IntWalk

/-! Tables of things that end, in plain words. -/
namespace Go.Proofs.YtdcekoocnoackaaGreatDoor

structure Itm (α : Type) where
  key : α
  id : Int
  due : Int
section
variable {α : Type} {R : List (Itm α)} {p : Itm α → Bool} {next : Int}
def ents (R : List (Itm α)) : List Ent := R.map fun x => ⟨x.id, x.due⟩
def Good (R : List (Itm α)) (next : Int) : Prop := (R.map (·.id)).Nodup ∧ ∀ x ∈ R, x.id < next
def setDue (R : List (Itm α)) (id a : Int) : List (Itm α) := R.map fun x => if x.id = id then { x with due := a } else x
def part_ (R : List (Itm α)) (p : Itm α → Bool) (k : Nat) : List (Itm α) := (R.take k).filter (fun x => !p x) ++ R.drop k
theorem ents_length : (ents R).length = R.length := by simp [ents]
theorem ents_ids : (ents R).map (·.id) = R.map (·.id) := by simp [ents]
theorem Good.nd (h : Good R next) : Nd (ents R) := by unfold Nd; rw [ents_ids]; exact h.1
theorem Good.hasnt (h : Good R next) : hasId (ents R) next = false := by
  unfold hasId
  rw [List.any_eq_false]
  intro x hx e
  unfold ents at hx
  obtain ⟨y, hy, rfl⟩ := List.mem_map.1 hx
  have := h.2 y hy
  have e' : y.id = next := by simpa using e
  omega
theorem itm_has {x : Itm α} (h : x ∈ R) : hasId (ents R) x.id = true := by
  unfold hasId
  rw [List.any_eq_true]
  exact ⟨⟨x.id, x.due⟩, List.mem_map.2 ⟨x, h, rfl⟩, by simp⟩
theorem Good.due (h : Good R next) {x : Itm α} (hx : x ∈ R) : dueAt (ents R) x.id = some x.due :=
  dueAt_of (x := ⟨x.id, x.due⟩) h.nd (List.mem_map.2 ⟨x, hx, rfl⟩)
theorem setDue_ids (id a : Int) : (setDue R id a).map (·.id) = R.map (·.id) := by
  unfold setDue
  rw [List.map_map]
  apply List.map_congr_left
  intro x _
  simp only [Function.comp]
  split <;> rfl
theorem Good.setDue (h : Good R next) (id a : Int) : Good (setDue R id a) next := by
  refine ⟨by rw [setDue_ids]; exact h.1, fun x hx => ?_⟩
  have : x.id ∈ (YtdcekoocnoackaaGreatDoor.setDue R id a).map (·.id) := List.mem_map.2 ⟨x, hx, rfl⟩
  rw [setDue_ids] at this
  obtain ⟨y, hy, e⟩ := List.mem_map.1 this
  rw [← e]; exact h.2 y hy
theorem Good.nil : Good ([] : List (Itm α)) next := ⟨by simp, by simp⟩
theorem Good.add (h : Good R next) (k : α) (u : Int) : Good (R ++ [⟨k, next, u⟩]) (next + 1) := by
  refine ⟨?_, ?_⟩
  · rw [List.map_append, List.nodup_append]
    refine ⟨h.1, by simp, ?_⟩
    intro a ha b hb
    obtain ⟨y, hy, rfl⟩ := List.mem_map.1 ha
    have := h.2 y hy
    simp at hb
    omega
  · intro x hx
    rw [List.mem_append] at hx
    rcases hx with hx | hx
    · have := h.2 x hx; omega
    · simp at hx; subst hx; simp only; omega
theorem ents_add (k : α) (u : Int) : ents (R ++ [⟨k, next, u⟩]) = ents R ++ [⟨next, u⟩] := by simp [ents]
theorem Good.sub {R' : List (Itm α)} (h : Good R next) (s : R'.Sublist R) : Good R' next :=
  ⟨(s.map _).nodup h.1, fun x hx => h.2 x (s.subset hx)⟩
end
end Go.Proofs.YtdcekoocnoackaaGreatDoor

/-! clear, on a slice of one's own. -/
namespace Go.Proofs.YtdcekoocnoackaaGreatDoor
open Go Go.RowKit

section
variable {B : Nat} {w0 w w' : World} {F : HP} {P : Program}
theorem zeroCells_mem {zero : Array Value} {n : Nat} {u : Value} (hz : 0 < zero.size) (h : u ∈ (Builtin.zeroCells zero n).toList) : u ∈ zero.toList := by
  unfold Builtin.zeroCells at h
  simp only [Array.toList_map, List.mem_map] at h
  obtain ⟨i, _, rfl⟩ := h
  have hlt : i % zero.size < zero.size := Nat.mod_lt _ hz
  rw [getElem!_pos zero (i % zero.size) hlt]
  simp
theorem zeroCells_len {zero : Array Value} {n : Nat} : (Builtin.zeroCells zero n).toList.length = n * zero.size := by
  simp [Builtin.zeroCells]
theorem splice_take {cur : Array Value} {o : Nat} {vs : List Value} (h : o ≤ cur.size) : (splice cur o vs).toList.take o = cur.toList.take o := by
  unfold splice
  simp only [List.append_assoc]
  rw [List.take_append_of_le_length (by simp; omega), List.take_take, Nat.min_self]
theorem Sat.run_clear {g o n c sz : Nat} {cur : Array Value} {t e ty : TypeId} {z : Value} (h : Sat B w0 w (blk g (.cells cur e (0, 0)) • F)) (ht : P.underlying t = some (.slice e)) (hz : ∀ w, (zeroValue e).run P w = .ok z w) (hzs : z.cells.size = sz) (hpos : 0 < sz)
    (h1 : ∀ u ∈ z.cells.toList, u.oneCell' = true) (hle : o + n * sz ≤ cur.size) :
    ∃ w' cur', (Builtin.clear_ #[t] ty #[.slice (some ⟨g, o, none⟩) n c]).run P w = .ok (.tuple #[]) w' ∧ Sat B w0 w' (blk g (.cells cur' e (0, 0)) • F) ∧ cur'.size = cur.size ∧ cur'.toList.take o = cur.toList.take o := by
  cases n with
  | zero =>
    refine ⟨w, cur, ?_, h, rfl, rfl⟩
    simp [Builtin.clear_, run_underlying ht]
  | succ n =>
    have hl : (Builtin.zeroCells z.cells (n + 1)).toList.length = (n + 1) * sz := by rw [zeroCells_len, hzs]
    have hst := run_storeCells_at (P := P) g o e (Builtin.zeroCells z.cells (n + 1)).toList 0 cur w h.heap (by rw [Nat.add_zero, hl]; exact hle) (fun u hu => h1 u (zeroCells_mem (by omega) hu))
    simp only [Nat.add_zero] at hst
    refine ⟨w.setRow g (splice cur o (Builtin.zeroCells z.cells (n + 1)).toList), splice cur o (Builtin.zeroCells z.cells (n + 1)).toList, ?_, h.setRow, splice_size (by rw [hl]; exact hle), splice_take (by omega)⟩
    simp only [Builtin.clear_, List.getElem?_toArray]
    simp [run_underlying ht, hz, hst, splice]
end
end Go.Proofs.YtdcekoocnoackaaGreatDoor

/-! s[k:] of a slice of one's own. -/
namespace Go.Proofs.YtdcekoocnoackaaGreatDoor
open Go Go.RowKit

def tailV (g sz k n c : Nat) : Value := .slice (some ⟨g, if c = k then 0 else k * sz, none⟩) (n - k) (c - k)
section
variable {P : Program} {w : World} {t e : TypeId} {g sz k n c : Nat} {kd : IntKind}
theorem run_tail (ht : P.underlying t = some (.slice e)) (hs : (P.info? e).map (·.size) = some sz) (hk : k ≤ n) (_ : n ≤ c) :
    (Instr.sliceAt t (.slice (some ⟨g, 0, none⟩) n c) (some (.int kd k)) none none).run P w = .ok (tailV g sz k n c) w := by
  have hel : P.elem t = e := by simp [Program.elem, ht]
  have ht' : P.underlying t = some (.slice (P.elem t)) := by rw [hel]; exact ht
  obtain ⟨i, hi, hz⟩ := Option.map_eq_some_iff.1 hs
  rw [run_sliceAt_slice (h := ht'), run_slice_l (ht := ht') (kl := kd) (l := (k : Int)) (h0 := by omega) (h1 := by omega), hel]
  simp only [sizeOf, typeInfo, Sem.run_bind, run_program, hi, Sem.run_pure, Result.andThen_ok, hz]
  unfold sliced tailV
  by_cases h : c = k
  · subst h
    simp
  · simp [h, Addr.add_lit]
theorem run_head (ht : P.underlying t = some (.slice e)) (hs : (P.info? e).map (·.size) = some sz) {A : Option Addr} (hk : k ≤ c) :
    (Instr.sliceAt t (.slice A n c) none (some (.int kd k)) none).run P w = .ok (.slice A k c) w := by
  have hel : P.elem t = e := by simp [Program.elem, ht]
  have ht' : P.underlying t = some (.slice (P.elem t)) := by rw [hel]; exact ht
  obtain ⟨i, hi, hz⟩ := Option.map_eq_some_iff.1 hs
  rw [run_sliceAt_slice (h := ht'), run_slice_h (ht := ht') (kh := kd) (h := (k : Int)) (h0 := by omega) (h2 := by omega), hel]
  simp only [sizeOf, typeInfo, Sem.run_bind, run_program, hi, Sem.run_pure, Result.andThen_ok, hz]
  unfold sliced
  cases A <;> simp [Addr.add]
variable {K : Act → World → Prop} {C : World → Prop} {a : Act} {i : Nat} {rest : List (Nat × How)} {o : Oper} {l : List Oper} {A : Option Addr}
end
section
variable {B : Nat} {w0 w w' : World} {F : HP} {α : Type} {enc : α → List Value} {sz c n k : Nat} {l : List α} {A : Option Addr} {e : TypeId} {g : Nat}
end
end Go.Proofs.YtdcekoocnoackaaGreatDoor

/-! Tables of things that end. -/
namespace Go.Proofs.YtdcekoocnoackaaGreatDoor
open Go Go.RowKit

def stopOf {β : Type} (p : β → Bool) (l : List β) : Nat := match l.findIdx? p with
  | some i => i + 1
  | none => l.length
theorem stop_hit {β : Type} {p : β → Bool} {l : List β} {k : Nat} {x : β} (h : l[k]? = some x) (hf : p x = true) (hn : ∀ j y, j < k → l[j]? = some y → p y = false) : stopOf p l = k + 1 := by
  have := plc_hit h hf hn
  unfold plc at this
  unfold stopOf
  cases hq : l.findIdx? p with
  | none => rw [hq] at this; simp only at this; omega
  | some i => rw [hq] at this; simp only at this ⊢; omega
theorem stop_miss {β : Type} {p : β → Bool} {l : List β} (hn : ∀ j y, j < l.length → l[j]? = some y → p y = false) : stopOf p l = l.length := by
  have := plc_done hn (Nat.le_refl _)
  unfold plc at this
  unfold stopOf
  cases hq : l.findIdx? p with
  | none => rfl
  | some i => rw [hq] at this; simp only at this; omega
section
variable {P : Program} {B : Nat} {w0 w w' : World} {F : HP}
/-- clear of what lies behind the first i. -/
theorem Sat.run_clear_tail {g i n c sz : Nat} {cur : Array Value} {t e ty : TypeId} {z : Value} (h : Sat B w0 w (blk g (.cells cur e (0, 0)) • F)) (ht : P.underlying t = some (.slice e)) (hz : ∀ w, (zeroValue e).run P w = .ok z w) (hzs : z.cells.size = sz) (hpos : 0 < sz)
    (h1 : ∀ u ∈ z.cells.toList, u.oneCell' = true) (hi : i ≤ n) (hn : n ≤ c) (hcs : cur.size = c * sz) :
    ∃ w' cur', (Builtin.clear_ #[t] ty #[tailV g sz i n c]).run P w = .ok (.tuple #[]) w' ∧ Sat B w0 w' (blk g (.cells cur' e (0, 0)) • F) ∧ cur'.size = cur.size ∧ cur'.toList.take (i * sz) = cur.toList.take (i * sz) := by
  unfold tailV
  by_cases e : n = i
  · subst e
    refine ⟨w, cur, ?_, h, rfl, rfl⟩
    rw [Nat.sub_self]
    simp [Builtin.clear_, run_underlying ht]
  · rw [if_neg (by omega)]
    have hm : (i + (n - i)) * sz ≤ c * sz := Nat.mul_le_mul_right _ (by omega)
    rw [Nat.add_mul] at hm
    exact h.run_clear (o := i * sz) (n := n - i) (c := c - i) ht hz hzs hpos h1 (by omega)
end
section
variable {α : Type}
def itmC (ek : α → List Value) (x : Itm α) : List Value := ek x.key ++ [.int .i64 x.id]
/-- A table of the program's. -/
def tab (ek : α → List Value) (E T : TypeId) (sz t room : Nat) (R : List (Itm α)) (next : Int) : HP := hex fun (x : Value × Nat) => lift (Good R next)
  (blk t (.cells #[x.1, .pointer (some ⟨x.2, 0, none⟩), .int .i64 next] T) • arr E (sz + 1) x.1 R.length (R.flatMap (itmC ek)) • queue x.2 room (ents R))
variable {ek : α → List Value} {E T : TypeId} {sz t room : Nat} {R : List (Itm α)} {next : Int} {B : Nat} {w0 w : World} {F : HP} {v : Value} {q : Nat}
end
/-- What is put at a place, behind which all is as it was. -/
theorem move_down {β : Type} {c l : List β} {p : β → Bool} {i j : Nat} {x : β} (hc : c.length = l.length) (h1 : c.take i = (l.take j).filter (fun x => !p x)) (h2 : c.drop j = l.drop j) (hij : i ≤ j) (hx : l[j]? = some x) (hp : p x = false) :
    (c.set i x).take (i + 1) = (l.take (j + 1)).filter (fun x => !p x) ∧ (c.set i x).drop (j + 1) = l.drop (j + 1) ∧ (c.set i x).length = l.length := by
  have hjl := (List.getElem?_eq_some_iff.1 hx).1
  refine ⟨?_, ?_, by rw [List.length_set]; exact hc⟩
  · have hr : (l.take (j + 1)).filter (fun x => !p x) = c.take i ++ [x] := by
      rw [List.take_add_one, hx, Option.toList_some, List.filter_append, ← h1]
      simp [hp]
    rw [hr, List.take_set, List.take_add_one, List.set_append_right _ _ (by simp; omega)]
    simp only [List.length_take]
    rw [Nat.min_eq_left (by omega), Nat.sub_self, List.getElem?_eq_getElem (by omega)]
    simp
  · rw [List.drop_set_of_lt (by omega)]
    have : c.drop (j + 1) = (c.drop j).drop 1 := by rw [List.drop_drop]
    rw [this, h2, List.drop_drop]
theorem stay_down {β : Type} {c l : List β} {p : β → Bool} {i j : Nat} {x : β} (h1 : c.take i = (l.take j).filter (fun x => !p x)) (h2 : c.drop j = l.drop j) (hx : l[j]? = some x) (hp : p x = true) :
    c.take i = (l.take (j + 1)).filter (fun x => !p x) ∧ c.drop (j + 1) = l.drop (j + 1) := by
  refine ⟨?_, ?_⟩
  · rw [List.take_add_one, hx, Option.toList_some, List.filter_append, ← h1]
    simp [hp]
  · have : c.drop (j + 1) = (c.drop j).drop 1 := by rw [List.drop_drop]
    rw [this, h2, List.drop_drop]
theorem filter_none {β : Type} {l : List β} {p : β → Bool} (h : ∀ x ∈ l, p x = false) : l.filter (fun x => !p x) = l := by
  rw [List.filter_eq_self]
  intro x hx
  simp [h x hx]
theorem take_none {β : Type} {l : List β} {p : β → Bool} {k : Nat} (hn : ∀ j y, j < k → l[j]? = some y → p y = false) : (l.take k).filter (fun x => !p x) = l.take k :=
  filter_none fun x hx => by
    obtain ⟨i, hi⟩ := List.mem_iff_getElem?.1 hx
    rw [List.getElem?_take] at hi
    split at hi
    · rename_i h; exact hn i x h hi
    · cases hi
end Go.Proofs.YtdcekoocnoackaaGreatDoor

/-! slices.IndexFunc, slices.DeleteFunc at a struct, and a predicate that acts. -/
namespace Go.Proofs.YtdcekoocnoackaaGreatDoor
open Go Go.RowKit

section
variable {B : Nat} {w0 w w' : World} {F : HP} {β : Type} {enc : β → List Value} {p : β → Bool} {l : List β} {g : Nat} {lb : Array Value} {v : Value}
set_option maxRecDepth 8000 in
set_option maxHeartbeats 4000000 in
theorem indexL_any (hsz : ∀ x, (enc x).length = 2) (eg : ∀ args w, (callFunc g args).run Tryz.prog w = .ok (.enter g args) w) (A : Nat → HP) (hn : l.length ≤ 1000)
    (hR : ∀ k W, k ≤ l.length → Sat B w0 W (A k) → Reads W v l.length (l.flatMap enc))
    (hp : ∀ k x W, l[k]? = some x → Sat B w0 W (A k) → Calls Tryz.prog g (#[.agg (enc x).toArray] ++ lb) W fun e w' => e = .returned (.bool (p x)) ∧ Sat B w0 w' (A (k + 1)))
    (h : Sat B w0 w (A 0)) :
    Calls Tryz.prog 185 #[v, .func (.func g) #[] lb] w fun e w' => e = .returned (.int .i64 (plc p l)) ∧ Sat B w0 w' (A (stopOf p l)) := by
  obtain ⟨A0, c0, rfl⟩ := (hR 0 w (Nat.zero_le _) h).len
  have HR := Lib.hid hR
  have HP := Lib.hid hp
  have HZ := Lib.hid hsz
  clear hR hp hsz
  go_enter Tryz.func185, Tryz.ntmps185
  go_wp2_with fail
  go_loopw [5, 8] (fun _ s wr => ∃ k : Nat, k ≤ l.length ∧ s = .int .i64 k ∧ Sat B w0 wr (A k) ∧ Hid (∀ j y, j < k → l[j]? = some y → p y = false)) (fun _ s _ => l.length - (intOf s).toNat)
  case atStart => exact ⟨0, Nat.zero_le _, rfl, h, Lib.hid fun j y hj => absurd hj (Nat.not_lt_zero _)⟩
  case round =>
    clear h
    obtain ⟨k, hk, rfl, hS, HK⟩ := hrel
    by_cases hlt : k < l.length
    · obtain ⟨x, hxk⟩ : ∃ x, l[k]? = some x := ⟨_, List.getElem?_eq_getElem hlt⟩
      obtain ⟨a, ca, hva, hc⟩ := (HR.out k wr hk hS).elem HZ.out hxk
      cases hva
      have hl : (Instr.loadAt 161 (.pointer (some (a.add (k * 2))))).run Tryz.prog wr = .ok (.agg (enc x).toArray) wr :=
        run_loadAt_cells Tryz.underlying161 rfl (by rw [HZ.out]; kernel_rfl) (fun j u hu => by rw [add_add']; exact hc j u hu)
      have hcall := HP.out k x wr hxk hS
      have hltz : (k : Int) < l.length := by omega
      have HX := Lib.hid hxk
      clear hxk hS hc
      generalize henc : (enc x).toArray = X at *
      clear henc
      cases hq : p x with
      | true =>
        rw [hq] at hcall
        have HQ := Lib.hid hq
        clear hq
        go_wp2_with (first | (refine wpList_load_run (t := 161) rfl rfl rfl hl ?_) | (go_at_fn g; refine hcall.mono ?_; rintro e w2 ⟨rfl, hS2⟩))
        go_ret
        rw [plc_hit HX.out HQ.out HK.out, stop_hit HX.out HQ.out HK.out]
        exact ⟨rfl, hS2⟩
      | false =>
        rw [hq] at hcall
        have HQ := Lib.hid hq
        clear hq
        go_wp2_with (first | (refine wpList_load_run (t := 161) rfl rfl rfl hl ?_) | (go_at_fn g; refine hcall.mono ?_; rintro e w2 ⟨rfl, hS2⟩))
        go_roundw
        case rel => exact ⟨k + 1, by omega, by go_num, hS2, Lib.hid (plc_next HK.out HX.out HQ.out)⟩
        case measure => simp [intOf]; omega
    · obtain rfl : k = l.length := by omega
      go_wp2_with fail
      go_ret
      rw [plc_done HK.out (Nat.le_refl _), stop_miss HK.out]
      exact ⟨rfl, hS⟩
theorem ln_info : (Tryz.prog.info? 161).map (·.size) = some 2 := by kernel_rfl
theorem ln_zero : ∃ z, (∀ w, (zeroValue 161).run Tryz.prog w = .ok z w) ∧ z.cells.size = 2 ∧ z.cells.toList.all (·.oneCell') = true := by
  obtain ⟨i, hi, hz⟩ := Option.map_eq_some_iff.1 (show (Tryz.prog.info? 161).map (fun i => (i.zero.map fun z => (z.cells.size, z.cells.toList.all (·.oneCell')))) = some (some (2, true)) by kernel_rfl)
  obtain ⟨z, hz1, hz2⟩ := Option.map_eq_some_iff.1 hz
  simp only [Prod.mk.injEq] at hz2
  refine ⟨z, fun w => ?_, hz2.1, hz2.2⟩
  simp [zeroValue, typeInfo, hi, hz1]
set_option maxRecDepth 8000 in
set_option maxHeartbeats 8000000 in
theorem deleteL_any (hsz : ∀ x, (enc x).length = 2) (h1 : ∀ x, ∀ u ∈ enc x, u.oneCell' = true) (eg : ∀ args w, (callFunc g args).run Tryz.prog w = .ok (.enter g args) w) (A : Nat → HP) (hn : l.length ≤ 1000)
    (hp : ∀ k x W G, l[k]? = some x → Sat B w0 W (A k • G) → Calls Tryz.prog g (#[.agg (enc x).toArray] ++ lb) W fun e w' => e = .returned (.bool (p x)) ∧ Sat B w0 w' (A (k + 1) • G))
    (h : Sat B w0 w (arr 161 2 v l.length (l.flatMap enc) • A 0)) :
    Calls Tryz.prog 127 #[v, .func (.func g) #[] lb] w fun e w' => ∃ v', e = .returned v' ∧ Sat B w0 w' (arr 161 2 v' (l.filter fun x => !p x).length ((l.filter fun x => !p x).flatMap enc) • A l.length) := by
  have c1 := indexL_any (B := B) (w0 := w0) (p := p) (v := v) hsz eg (fun k => A k • arr 161 2 v l.length (l.flatMap enc)) hn (fun k W _ hS => hS.swap.arr_reads) (fun k x W hx hS => hp k x W _ hx hS) h.swap
  obtain ⟨A0, c0, rfl⟩ := h.arr_form
  rcases plc_cases p l with ⟨e1, hno⟩ | ⟨k, x, hx, hpx, e1, hfirst⟩
  · rw [e1] at c1
    have hst : stopOf p l = l.length := stop_miss fun j y _ hy => hno y (List.mem_of_getElem? hy)
    rw [hst] at c1
    rw [filter_none hno]
    clear hno e1 hst h hp hsz h1
    go_enter Tryz.func127, Tryz.ntmps127
    go_wp2_with fail
    refine c1.mono ?_
    rintro e w1 ⟨rfl, hS1⟩
    go_wp2_with fail
    go_ret
    exact ⟨_, rfl, hS1.swap⟩
  · rw [e1, stop_hit hx hpx hfirst] at c1
    have hkl := (List.getElem?_eq_some_iff.1 hx).1
    have hc0 : ∃ c : List β, c.length = l.length ∧ c.take k = (l.take (k + 1)).filter (fun x => !p x) ∧ c.drop (k + 1) = l.drop (k + 1) ∧ c = l := by
      refine ⟨l, rfl, ?_, rfl, rfl⟩
      have := (stay_down (i := k) (c := l) (p := p) (j := k) (take_none hfirst).symm rfl hx hpx).1
      exact this
    obtain ⟨cl, hcl, hc1, hc2, hce⟩ := hc0
    have hkb : ((k : Int) == -1) = false := by rw [beq_eq_false_iff_ne]; omega
    have H0 := Lib.hid (And.intro hc1 hc2)
    have HZ := Lib.hid hsz
    have H1 := Lib.hid h1
    have HP := Lib.hid hp
    have HE := Lib.hid hce
    clear e1 hx hpx hfirst hc1 hc2 hsz h1 hp hce h
    go_enter Tryz.func127, Tryz.ntmps127
    go_wp2_with fail
    refine c1.mono ?_
    rintro e w1 ⟨rfl, hS1⟩
    have hS1' : Sat B w0 w1 (arr 161 2 (.slice A0 l.length c0) l.length (cl.flatMap enc) • A (k + 1)) := by rw [HE.out]; exact hS1.swap
    clear c1 hS1
    go_wp2_with fail
    go_loopw [5, 6, 7] (fun s5 s6 _ wr => ∃ (i j : Nat) (c : List β), i < j ∧ j ≤ l.length ∧ c.length = l.length ∧ s5 = .int .i64 i ∧ s6 = .int .i64 j ∧ Sat B w0 wr (arr 161 2 (.slice A0 l.length c0) l.length (c.flatMap enc) • A j) ∧ Hid (c.take i = (l.take j).filter (fun x => !p x) ∧ c.drop j = l.drop j)) (fun _ s6 _ _ => l.length - (intOf s6).toNat)
    case atStart => exact ⟨k, k + 1, cl, by omega, by omega, hcl, rfl, by go_num, hS1', H0⟩
    case round =>
      clear hS1' H0 hcl HE
      obtain ⟨i, j, c, hij, hj, hcl, rfl, rfl, hS, HK⟩ := hrel
      by_cases hlt : j < l.length
      · obtain ⟨x, hxj⟩ : ∃ x, l[j]? = some x := ⟨_, List.getElem?_eq_getElem hlt⟩
        have hcx : c[j]? = some x := by
          have := congrArg (fun z => z[0]?) HK.out.2
          simp only [List.getElem?_drop, Nat.add_zero] at this
          rw [this, hxj]
        have hltz : (j : Int) < l.length := by omega
        rcases hS.arr_open with ⟨_, h0, _, _⟩ | ⟨b, cap, cur, hv, q1, q2, q3, q4, hO⟩
        · omega
        simp only [Value.slice.injEq] at hv
        obtain ⟨rfl, _, rfl⟩ := hv
        have hl : (Instr.loadAt 161 (.pointer (some ⟨b, j * 2, none⟩))).run Tryz.prog wr = .ok (.agg (enc x).toArray) wr :=
          run_loadAt_row hO.heap Tryz.underlying161 rfl (by rw [HZ.out]; kernel_rfl) (fun m u hu => cur_at HZ.out q4 hcx m u hu)
        have hst : ∀ (W : World) (z : Array Value), z.size = 2 → (Instr.storeAt 161 (.pointer (some ⟨W.heap.size, 0, none⟩)) (.agg (enc x).toArray)).run Tryz.prog (W.alloc (.cells z 161)) = .ok () (W.alloc (.cells (enc x).toArray 161)) :=
          fun W z hz => run_storeAt_new (v := .agg (enc x).toArray) (by simp only [Value.cells, List.size_toArray, HZ.out]; kernel_rfl) (by simp only [Value.cells, List.size_toArray, HZ.out]; exact hz) (by simpa [Value.cells] using H1.out x)
        have hl2 : ∀ W : World, (Instr.loadAt 161 (.pointer (some ⟨W.heap.size, 0, none⟩))).run Tryz.prog (W.alloc (.cells (enc x).toArray 161)) = .ok (.agg (enc x).toArray) (W.alloc (.cells (enc x).toArray 161)) :=
          fun W => run_loadAt_row (heap_alloc_new _ _) Tryz.underlying161 rfl (by rw [HZ.out]; kernel_rfl) (fun j u hu => by simpa using hu)
        have hX := hO.alloc (.cells (enc x).toArray 161)
        have hcall := HP.out j x _ (blk wr.heap.size (.cells (enc x).toArray 161) • blk b (.cells cur 161 (0, 0))) hxj (hX.to (by ac_rfl : _ = A j • blk wr.heap.size (.cells (enc x).toArray 161) • blk b (.cells cur 161 (0, 0))))
        have HX := Lib.hid hxj
        have Q4 := Lib.hid q4
        have HS := Lib.hid hS
        clear hxj hcx hS hO hX q4
        cases hq : p x with
        | true =>
          rw [hq] at hcall
          have hsd := stay_down HK.out.1 HK.out.2 HX.out hq
          have HD := Lib.hid hsd
          clear hq hsd
          go_wp2_with (first | (refine wpList_load_run (t := 161) rfl rfl rfl hl ?_) | (refine wpList_store_run (t := 161) rfl rfl rfl rfl (hst _ _ rfl) ?_) | (refine wpList_load_run (t := 161) rfl rfl rfl (hl2 _) ?_) | (go_at_fn g; refine hcall.mono ?_; rintro e w2 ⟨rfl, hS2⟩))
          go_roundw
          case rel =>
            refine ⟨i, j + 1, c, by omega, by omega, hcl, rfl, by go_num, ?_, HD⟩
            exact Sat.arr_shut q1 q2 q3 Q4.out (hS2.to (by ac_rfl : _ = blk wr.heap.size (.cells (enc x).toArray 161) • blk b (.cells cur 161 (0, 0)) • A (j + 1))).drop
          case measure => simp [intOf]; omega
        | false =>
          rw [hq] at hcall
          have hsd := move_down hcl HK.out.1 HK.out.2 (by omega) HX.out hq
          have HD := Lib.hid hsd
          clear hq hsd
          go_wp2_with (first | (refine wpList_load_run (t := 161) rfl rfl rfl hl ?_) | (refine wpList_store_run (t := 161) rfl rfl rfl rfl (hst _ _ rfl) ?_) | (refine wpList_load_run (t := 161) rfl rfl rfl (hl2 _) ?_) | (go_at_fn g; refine hcall.mono ?_; rintro e w2 ⟨rfl, hS2⟩; refine stop_ ?_))
          unfold Stop
          have hY := hS2.to (by ac_rfl : _ = blk wr.heap.size (.cells (enc x).toArray 161) • blk b (.cells cur 161 (0, 0)) • A (j + 1))
          have hl3 := run_loadAt_row (P := Tryz.prog) (o := 0) (ty := 161) (cs := enc x) hY.heap Tryz.underlying161 rfl (by rw [HZ.out]; kernel_rfl) (fun j u hu => by simpa using hu)
          have hij2 : i * 2 + 2 ≤ cur.size := by
            have := Nat.mul_le_mul_right 2 (show i + 1 ≤ c0 by omega)
            rw [Nat.add_mul] at this; omega
          have hs4 := run_storeAt_row (P := Tryz.prog) (o := i * 2) (ty := 161) (v := .agg (enc x).toArray) hY.drop.heap (by simp only [Value.cells, List.size_toArray, HZ.out]; kernel_rfl) (by simp only [Value.cells, List.size_toArray, HZ.out]; exact hij2) (by simpa [Value.cells] using H1.out x)
          have hY2 := hY.drop.setRow (cs := splice cur (i * 2) (enc x))
          simp only [Value.cells] at hs4
          have htk := take_splice_set HZ.out (by decide) Q4.out hcl (by rw [q3]; exact Nat.mul_le_mul_right _ q1) (show i < l.length by omega) x
          have hsp := splice_size (cur := cur) (o := i * 2) (vs := enc x) (by rw [HZ.out]; exact hij2)
          have HY2 := Lib.hid (Sat.arr_shut q1 q2 (hsp.trans q3) htk hY2)
          clear hcall hS2 hY hY2 htk hsp hst hl hl2
          generalize w2.setRow b (splice cur (i * 2) (enc x)) = W4 at *
          have hiz : (i : Int) < l.length := by omega
          go_wp2_with (first | (refine wpList_load_run (t := 161) rfl rfl rfl hl3 ?_) | (refine wpList_store_run (t := 161) rfl rfl rfl rfl hs4 ?_))
          go_roundw
          case rel => exact ⟨i + 1, j + 1, c.set i x, by omega, by omega, HD.out.2.2, by go_num, by go_num, HY2.out, Lib.hid ⟨HD.out.1, HD.out.2.1⟩⟩
          case measure => simp [intOf]; omega
      · obtain rfl : j = l.length := by omega
        obtain ⟨e1, _⟩ := HK.out
        rw [List.take_length] at e1
        rcases hS.arr_open with ⟨_, h0, _, _⟩ | ⟨b, cap, cur, hv, q1, q2, q3, q4, hO⟩
        · omega
        simp only [Value.slice.injEq] at hv
        obtain ⟨rfl, _, rfl⟩ := hv
        obtain ⟨z, hz1, hz2, hz3⟩ := ln_zero
        obtain ⟨w3, cur3, hr3, hO3, hs3, ht3⟩ := hO.run_clear_tail (P := Tryz.prog) (i := i) (t := 158) (ty := 0) Tryz.underlying158 hz1 hz2 (by decide) (fun u hu => List.all_eq_true.1 hz3 u hu) (by omega) q1 q3
        have htl := run_tail (P := Tryz.prog) (w := wr) (t := 158) (e := 161) (g := b) (sz := 2) (k := i) (n := l.length) (c := c0) (kd := .i64) Tryz.underlying158 ln_info (by omega) q1
        have hhd := run_head (P := Tryz.prog) (w := w3) (t := 158) (e := 161) (sz := 2) (k := i) (n := l.length) (c := c0) (kd := .i64) (A := some ⟨b, 0, none⟩) Tryz.underlying158 ln_info (by omega)
        have hil : (l.filter fun x => !p x).length = i := by rw [← e1, List.length_take]; omega
        have hfin : Sat B w0 w3 (arr 161 2 (.slice (some ⟨b, 0, none⟩) i c0) (l.filter fun x => !p x).length ((l.filter fun x => !p x).flatMap enc) • A l.length) := by
          rw [hil]
          refine Sat.arr_shut (by omega) q2 (hs3.trans q3) ?_ hO3
          rw [ht3]
          have h5 : cur.toList.take (i * 2) = (cur.toList.take (l.length * 2)).take (i * 2) := by
            rw [List.take_take, Nat.min_eq_left (Nat.mul_le_mul_right _ (by omega))]
          rw [h5, q4, ← e1]
          have h6 : c.flatMap enc = (c.take i).flatMap enc ++ (c.drop i).flatMap enc := by rw [← List.flatMap_append, List.take_append_drop]
          rw [h6, List.take_left']
          rw [flat_length HZ.out, List.length_take]; congr 1; omega
        have HF := Lib.hid hfin
        clear hfin hil e1 hO3 hO hs3 ht3 q3 q4 hS hz1 hz2 hz3
        go_wp2_with fail
        go_ret
        exact ⟨_, rfl, HF.out⟩
end
end Go.Proofs.YtdcekoocnoackaaGreatDoor
