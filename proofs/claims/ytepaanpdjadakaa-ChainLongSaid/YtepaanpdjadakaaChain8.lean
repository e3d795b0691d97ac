import Derived.Test.YtepaanpdjadakaaChain7
/-! Two lists held against each other. -/
namespace Go.Proofs.Ytepaanpdjadakaa
open Go Go.RowKit

def sameOf {α : Type} (eq : α → α → Bool) : List α → List α → Bool
  | [], [] => true
  | x :: xs, y :: ys => eq x y && sameOf eq xs ys
  | _, _ => false
theorem sameOf_len {α : Type} {eq : α → α → Bool} : ∀ {l m : List α}, l.length ≠ m.length → sameOf eq l m = false
  | [], [], h => absurd rfl h
  | [], _ :: _, _ => rfl
  | _ :: _, [], _ => rfl
  | x :: xs, y :: ys, h => by simp [sameOf, sameOf_len (l := xs) (m := ys) (by simpa using h)]
theorem sameOf_drop {α : Type} {eq : α → α → Bool} {l m : List α} {k : Nat} {x y : α} (hx : l[k]? = some x) (hy : m[k]? = some y) : sameOf eq (l.drop k) (m.drop k) = (eq x y && sameOf eq (l.drop (k + 1)) (m.drop (k + 1))) := by
  obtain ⟨h1, h2⟩ := List.getElem?_eq_some_iff.1 hx
  obtain ⟨h3, h4⟩ := List.getElem?_eq_some_iff.1 hy
  rw [List.drop_eq_getElem_cons h1, List.drop_eq_getElem_cons h3, h2, h4]
  rfl
theorem sameOf_refl {α : Type} {eq : α → α → Bool} (h : ∀ x, eq x x = true) : ∀ l : List α, sameOf eq l l = true
  | [] => rfl
  | x :: xs => by simp [sameOf, h x, sameOf_refl h xs]
def eqF (a b : Fnd) : Bool := decide (a = b)
def eqS (a b : ByteArray) : Bool := a.toList == b.toList

set_option maxHeartbeats 1000000 in
theorem eqF_any (x y : Fnd) (w : World) : Calls Try.prog 33 #[.agg x.enc.toArray, .agg y.enc.toArray] w fun e w' => e = .returned (.bool (eqF x y)) ∧ Below w.heap.size w w' := by
  unfold eqF
  go_enter Try.func33, Try.ntmps33
  have hS := ((Sat.start w).alloc (.cells x.enc.toArray 49)).alloc (.cells y.enc.toArray 49)
  have h1 : (Instr.loadAt 49 (.pointer (some ⟨w.heap.size, 0, none⟩))).run Try.prog _ = .ok (.agg x.enc.toArray) _ := run_loadAt_row hS.pull2.heap Try.underlying49 rfl (by rw [Fnd.enc_length]; kernel_rfl) (fun j u hu => by simpa using hu)
  have h2 : (Instr.loadAt 49 (.pointer (some ⟨(w.alloc (.cells x.enc.toArray 49)).heap.size, 0, none⟩))).run Try.prog _ = .ok (.agg y.enc.toArray) _ := run_loadAt_row hS.heap Try.underlying49 rfl (by rw [Fnd.enc_length]; kernel_rfl) (fun j u hu => by simpa using hu)
  rw [World.size_alloc] at h2
  have hB := hS.below
  go_wp2_with (first | (refine wpList_load_run (t := 49) rfl rfl rfl h1 ?_) | (refine wpList_load_run (t := 49) rfl rfl rfl h2 ?_) | (refine wpList_eql_run rfl rfl rfl rfl (by kernel_rfl) (fnd_eq 9996 x y) ?_))
  go_ret
  exact ⟨rfl, hB⟩
set_option maxHeartbeats 1000000 in
theorem eqS_any (x y : ByteArray) (w : World) : Calls Try.prog 35 #[.string x, .string y] w fun e w' => e = .returned (.bool (eqS x y)) ∧ Below w.heap.size w w' := by
  unfold eqS
  go_enter Try.func35, Try.ntmps35
  go_wp2_with fail
  go_ret
  exact ⟨rfl, Below.refl _ _⟩
theorem Reads.cellAt {w : World} {v : Value} {l : List ByteArray} (h : NamesAt w v l) {i : Nat} {x : ByteArray} (hi : l[i]? = some x) {a : Addr} {n c : Nat} (hv : v = .slice (some a) n c) :
    (Instr.loadAt 9 (.pointer (some (a.add i)))).run Try.prog w = .ok (.string x) w := by
  obtain ⟨a', c', hv', hc⟩ := h.elem hi
  rw [hv] at hv'
  simp only [Value.slice.injEq, Option.some.injEq] at hv'
  obtain ⟨rfl, -, -⟩ := hv'
  have hagg : (isAgg 9).run Try.prog w = .ok false w := run_isAgg Try.underlying9
  simp only [Instr.loadAt, Instr.sureAddr, Sem.run_bind, Sem.run_pure, Result.andThen_ok, loadVar, hagg]
  simp [load, Sem.run, hc]
theorem FndsAt.cellAt {w : World} {v : Value} {l : List Fnd} (h : FndsAt w v l) {i : Nat} {x : Fnd} (hi : l[i]? = some x) {a : Addr} {n c : Nat} (hv : v = .slice (some a) n c) :
    (Instr.loadAt 49 (.pointer (some (a.add (i * 18))))).run Try.prog w = .ok (.agg x.enc.toArray) w := by
  obtain ⟨a', c', hv', hcell⟩ := h.1.elem Fnd.enc_length hi
  rw [hv] at hv'
  simp only [Value.slice.injEq, Option.some.injEq] at hv'
  obtain ⟨rfl, -, -⟩ := hv'
  exact run_loadAt_cells Try.underlying49 rfl (by rw [x.enc_length]; kernel_rfl) (fun j u hu => by rw [add_add']; exact hcell j u hu)

set_option maxHeartbeats 2000000 in
theorem sameF_any (l m : List Fnd) (v u : Value) (w : World) (hv : FndsAt w v l) (hu : FndsAt w u m) :
    Calls Try.prog 32 #[v, u, .func (.func 33) #[] #[]] w fun e w' => e = .returned (.bool (sameOf eqF l m)) ∧ Below w.heap.size w w' := by
  obtain ⟨A, c, hA⟩ := hv.1.len
  obtain ⟨A', c', hA'⟩ := hu.1.len
  subst hA hA'
  have hll := hv.2
  have hmm := hu.2
  by_cases hlen : l.length = m.length
  · have hlen' : ((l.length : Int) != (m.length : Int)) = false := by simp [hlen]
    have hsl := @sameOf_drop _ eqF l m
    generalize hR : sameOf eqF l m = R
    have hR0 : sameOf eqF (l.drop 0) (m.drop 0) = R := by simpa using hR
    have HR := Lib.hid hR0
    have HL := Lib.hid hlen
    clear hR hR0 hlen
    go_enter Try.func32, Try.ntmps32
    go_wp2_with fail
    go_loopw [7] (fun i wr => ∃ k : Nat, k ≤ l.length ∧ i = .int .i64 k ∧ Sat w.heap.size w wr emp ∧ Hid (sameOf eqF (l.drop k) (m.drop k) = R))
      (fun i _ => l.length - (intOf i).toNat)
    case atStart => exact ⟨0, Nat.zero_le _, rfl, Sat.start w, HR⟩
    case round =>
      obtain ⟨k, hk, rfl, hS, HD⟩ := hrel
      by_cases hlt : k < l.length
      · have hltm : k < m.length := by have := HL.out; omega
        obtain ⟨x, hxk⟩ : ∃ x, l[k]? = some x := ⟨_, List.getElem?_eq_getElem hlt⟩
        obtain ⟨y, hyk⟩ : ∃ y, m[k]? = some y := ⟨_, List.getElem?_eq_getElem hltm⟩
        have hv2 := hv.below hS.below
        have hu2 := hu.below hS.below
        obtain ⟨a, ca, hva⟩ : ∃ a ca, (Value.slice A l.length c) = .slice (some a) l.length ca := by
          rcases hv2.1 with ⟨_, _, h0, _⟩ | ⟨a, ca, h, _⟩
          · omega
          · exact ⟨a, ca, h⟩
        obtain ⟨b, cb, hub⟩ : ∃ a ca, (Value.slice A' m.length c') = .slice (some a) m.length ca := by
          rcases hu2.1 with ⟨_, _, h0, _⟩ | ⟨a, ca, h, _⟩
          · omega
          · exact ⟨a, ca, h⟩
        cases hva
        cases hub
        have hdr := hsl hxk hyk
        go_wp2_with fail
        refine wp_region_ord [(0, .pure), (1, .pure), (2, .pure), (3, .pure), (4, .quiet), (5, .pure), (6, .pure), (7, .pure), (8, .quiet), (9, .acts), (10, .pure)] (by kernel_rfl) (by kernel_rfl) (fun w' => Below wr.heap.size wr w') ((Sat.start wr).drew.below) ?_
        iterate 4 (refine ord_pure rfl rfl rfl (fun K' hK => ?_); go_big_quiet_op; refine hK _ ?_; clear hK K')
        refine ord_load (t := 49) rfl rfl rfl (p := .pointer (some (a.add (k * 18)))) (v := .agg x.enc.toArray) rfl (fun w' hC => FndsAt.cellAt (hv2.below hC) hxk rfl) (fun K' hK => ?_)
        go_simp
        refine hK _ ?_
        clear hK K'
        iterate 3 (refine ord_pure rfl rfl rfl (fun K' hK => ?_); go_big_quiet_op; refine hK _ ?_; clear hK K')
        refine ord_load (t := 49) rfl rfl rfl (p := .pointer (some (b.add (k * 18)))) (v := .agg y.enc.toArray) rfl (fun w' hC => FndsAt.cellAt (hu2.below hC) hyk rfl) (fun K' hK => ?_)
        go_simp
        refine hK _ ?_
        clear hK K'
        refine ord_acts rfl rfl (fun K' hK => ?_)
        go_simp
        refine (eqF_any x y _).mono ?_
        rintro e w2 ⟨rfl, hb2⟩
        have hS2 := hS.drew.below_ hb2
        refine hK _ _ ((Sat.start wr).drew.below_ hb2).below ?_
        clear hK K'
        go_simp
        iterate 1 (refine ord_pure rfl rfl rfl (fun K' hK => ?_); go_big_quiet_op; refine hK _ ?_; clear hK K')
        refine ord_nil ?_
        cases hq : eqF x y
        · rw [hq] at hdr
          have HF := Lib.hid (HD.out.symm.trans hdr)
          clear hdr hq HD
          go_wp2_with fail
          go_ret
          exact ⟨by rw [HF.out]; rfl, hS2.below⟩
        · rw [hq] at hdr
          have HF := Lib.hid (hdr.symm.trans HD.out)
          clear hdr hq HD
          go_wp2_with fail
          go_roundw
          case rel => exact ⟨k + 1, by omega, by go_num, hS2, Lib.hid (by simpa using HF.out)⟩
          case measure => simp [intOf]; omega
      · obtain rfl : k = l.length := by omega
        have HF : R = true := by have := HD.out; rw [List.drop_length, HL.out, List.drop_length] at this; simpa [sameOf] using this.symm
        subst HF
        go_wp2_with fail
        go_ret
        exact ⟨rfl, hS.below⟩
  · have hlen' : ((l.length : Int) != (m.length : Int)) = true := by simp; omega
    rw [sameOf_len hlen]
    go_enter Try.func32, Try.ntmps32
    go_wp2_with fail
    go_ret
    exact ⟨rfl, Below.refl _ _⟩
set_option maxHeartbeats 1000000 in
theorem plainF_any (l m : List Fnd) (v u : Value) (w : World) (hv : FndsAt w v l) (hu : FndsAt w u m) :
    Calls Try.prog 19 #[v, u] w fun e w' => e = .returned (.bool (sameOf eqF l m)) ∧ Below w.heap.size w w' := by
  go_enter Try.func19, Try.ntmps19
  go_wp2_with fail
  refine (sameF_any l m v u _ hv hu).mono ?_
  rintro e w' ⟨rfl, hb⟩
  go_wp2_with fail
  go_ret
  exact ⟨rfl, hb⟩

set_option maxHeartbeats 2000000 in
theorem sameS_any (l m : List ByteArray) (v u : Value) (w : World) (hv : NamesAt w v l) (hu : NamesAt w u m) :
    Calls Try.prog 34 #[v, u, .func (.func 35) #[] #[]] w fun e w' => e = .returned (.bool (sameOf eqS l m)) ∧ Below w.heap.size w w' := by
  obtain ⟨A, c, hA⟩ := hv.1.len
  obtain ⟨A', c', hA'⟩ := hu.1.len
  subst hA hA'
  have hll := hv.2
  have hmm := hu.2
  by_cases hlen : l.length = m.length
  · have hlen' : ((l.length : Int) != (m.length : Int)) = false := by simp [hlen]
    have hsl := @sameOf_drop _ eqS l m
    generalize hR : sameOf eqS l m = R
    have hR0 : sameOf eqS (l.drop 0) (m.drop 0) = R := by simpa using hR
    have HR := Lib.hid hR0
    have HL := Lib.hid hlen
    clear hR hR0 hlen
    go_enter Try.func34, Try.ntmps34
    go_wp2_with fail
    go_loopw [7] (fun i wr => ∃ k : Nat, k ≤ l.length ∧ i = .int .i64 k ∧ Sat w.heap.size w wr emp ∧ Hid (sameOf eqS (l.drop k) (m.drop k) = R))
      (fun i _ => l.length - (intOf i).toNat)
    case atStart => exact ⟨0, Nat.zero_le _, rfl, Sat.start w, HR⟩
    case round =>
      obtain ⟨k, hk, rfl, hS, HD⟩ := hrel
      by_cases hlt : k < l.length
      · have hltm : k < m.length := by have := HL.out; omega
        obtain ⟨x, hxk⟩ : ∃ x, l[k]? = some x := ⟨_, List.getElem?_eq_getElem hlt⟩
        obtain ⟨y, hyk⟩ : ∃ y, m[k]? = some y := ⟨_, List.getElem?_eq_getElem hltm⟩
        have hv2 := hv.below hS.below
        have hu2 := hu.below hS.below
        obtain ⟨a, ca, hva⟩ : ∃ a ca, (Value.slice A l.length c) = .slice (some a) l.length ca := by
          rcases hv2.1 with ⟨_, _, h0, _⟩ | ⟨a, ca, h, _⟩
          · omega
          · exact ⟨a, ca, h⟩
        obtain ⟨b, cb, hub⟩ : ∃ a ca, (Value.slice A' m.length c') = .slice (some a) m.length ca := by
          rcases hu2.1 with ⟨_, _, h0, _⟩ | ⟨a, ca, h, _⟩
          · omega
          · exact ⟨a, ca, h⟩
        cases hva
        cases hub
        have hdr := hsl hxk hyk
        go_wp2_with fail
        refine wp_region_ord [(0, .pure), (1, .pure), (2, .pure), (3, .pure), (4, .quiet), (5, .pure), (6, .pure), (7, .pure), (8, .quiet), (9, .acts), (10, .pure)] (by kernel_rfl) (by kernel_rfl) (fun w' => Below wr.heap.size wr w') ((Sat.start wr).drew.below) ?_
        iterate 4 (refine ord_pure rfl rfl rfl (fun K' hK => ?_); go_big_quiet_op; refine hK _ ?_; clear hK K')
        refine ord_load (t := 9) rfl rfl rfl (p := .pointer (some (a.add k))) (v := .string x) rfl (fun w' hC => Reads.cellAt (hv2.below hC) hxk rfl) (fun K' hK => ?_)
        go_simp
        refine hK _ ?_
        clear hK K'
        iterate 3 (refine ord_pure rfl rfl rfl (fun K' hK => ?_); go_big_quiet_op; refine hK _ ?_; clear hK K')
        refine ord_load (t := 9) rfl rfl rfl (p := .pointer (some (b.add k))) (v := .string y) rfl (fun w' hC => Reads.cellAt (hu2.below hC) hyk rfl) (fun K' hK => ?_)
        go_simp
        refine hK _ ?_
        clear hK K'
        refine ord_acts rfl rfl (fun K' hK => ?_)
        go_simp
        refine (eqS_any x y _).mono ?_
        rintro e w2 ⟨rfl, hb2⟩
        have hS2 := hS.drew.below_ hb2
        refine hK _ _ ((Sat.start wr).drew.below_ hb2).below ?_
        clear hK K'
        go_simp
        iterate 1 (refine ord_pure rfl rfl rfl (fun K' hK => ?_); go_big_quiet_op; refine hK _ ?_; clear hK K')
        refine ord_nil ?_
        cases hq : eqS x y
        · rw [hq] at hdr
          have HF := Lib.hid (HD.out.symm.trans hdr)
          clear hdr hq HD
          go_wp2_with fail
          go_ret
          exact ⟨by rw [HF.out]; rfl, hS2.below⟩
        · rw [hq] at hdr
          have HF := Lib.hid (hdr.symm.trans HD.out)
          clear hdr hq HD
          go_wp2_with fail
          go_roundw
          case rel => exact ⟨k + 1, by omega, by go_num, hS2, Lib.hid (by simpa using HF.out)⟩
          case measure => simp [intOf]; omega
      · obtain rfl : k = l.length := by omega
        have HF : R = true := by have := HD.out; rw [List.drop_length, HL.out, List.drop_length] at this; simpa [sameOf] using this.symm
        subst HF
        go_wp2_with fail
        go_ret
        exact ⟨rfl, hS.below⟩
  · have hlen' : ((l.length : Int) != (m.length : Int)) = true := by simp; omega
    rw [sameOf_len hlen]
    go_enter Try.func34, Try.ntmps34
    go_wp2_with fail
    go_ret
    exact ⟨rfl, Below.refl _ _⟩
set_option maxHeartbeats 1000000 in
theorem plainS_any (l m : List ByteArray) (v u : Value) (w : World) (hv : NamesAt w v l) (hu : NamesAt w u m) :
    Calls Try.prog 20 #[v, u] w fun e w' => e = .returned (.bool (sameOf eqS l m)) ∧ Below w.heap.size w w' := by
  go_enter Try.func20, Try.ntmps20
  go_wp2_with fail
  refine (sameS_any l m v u _ hv hu).mono ?_
  rintro e w' ⟨rfl, hb⟩
  go_wp2_with fail
  go_ret
  exact ⟨rfl, hb⟩
end Go.Proofs.Ytepaanpdjadakaa
