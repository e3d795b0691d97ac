import Derived.Test.YtepaanpdjadakaaGreatDoorFloB
import Derived.Test.YtepaanpdjadakaaGreatDoorFloK

/-! The insertion sort of flows by their ends, in plain words. -/
namespace Go.Proofs.YtepaanpdjadakaaGreatDoor
open Go Go.RowKit

def insR (S : List FIt) (x : FIt) : List FIt := (S.filter fun y => decide (y.due ≤ x.due)) ++ x :: (S.filter fun y => decide (x.due < y.due))
def isrt (l : List FIt) : List FIt := l.foldl insR []
def Srt (S : List FIt) : Prop := S.Pairwise fun a b => a.due ≤ b.due
section
variable {S P Q l : List FIt} {x y : FIt} {i : Nat}
theorem Srt.ins (h : Srt S) (x : FIt) : Srt (insR S x) := by
  unfold Srt insR at *
  rw [List.pairwise_append]
  refine ⟨List.Pairwise.filter _ h, ?_, ?_⟩
  · rw [List.pairwise_cons]
    refine ⟨fun y hy => ?_, List.Pairwise.filter _ h⟩
    have := (List.mem_filter.1 hy).2
    simp at this; omega
  · intro a ha b hb
    have h1 := (List.mem_filter.1 ha).2
    simp at h1
    rcases List.mem_cons.1 hb with rfl | hb
    · exact h1
    · have h2 := (List.mem_filter.1 hb).2
      simp at h2; omega
theorem foldl_srt : ∀ (l S : List FIt), Srt S → Srt (l.foldl insR S)
  | [], _, h => h
  | x :: l, _, h => foldl_srt l _ (Srt.ins h x)
theorem isrt_srt (l : List FIt) : Srt (isrt l) := foldl_srt l [] List.Pairwise.nil
theorem mem_insR {z : FIt} : z ∈ insR S x ↔ z = x ∨ z ∈ S := by
  unfold insR
  simp only [List.mem_append, List.mem_cons, List.mem_filter, decide_eq_true_eq]
  constructor
  · rintro (⟨h, _⟩ | rfl | ⟨h, _⟩)
    · exact .inr h
    · exact .inl rfl
    · exact .inr h
  · rintro (rfl | h)
    · exact .inr (.inl rfl)
    · by_cases e : z.due ≤ x.due
      · exact .inl ⟨h, e⟩
      · exact .inr (.inr ⟨h, by omega⟩)
theorem mem_foldl {z : FIt} : ∀ (l S : List FIt), z ∈ l.foldl insR S ↔ z ∈ l ∨ z ∈ S
  | [], S => by simp
  | x :: l, S => by
    rw [List.foldl_cons, mem_foldl l, mem_insR, List.mem_cons]
    constructor
    · rintro (h | h | h)
      · exact .inl (.inr h)
      · exact .inl (.inl h)
      · exact .inr h
    · rintro ((h | h) | h)
      · exact .inr (.inl h)
      · exact .inl h
      · exact .inr (.inr h)
theorem mem_isrt {z : FIt} : z ∈ isrt l ↔ z ∈ l := by
  unfold isrt
  rw [mem_foldl]
  simp
theorem filter_two : ∀ (S : List FIt) (d : Int), (S.filter fun y => decide (y.due ≤ d)).length + (S.filter fun y => decide (d < y.due)).length = S.length
  | [], _ => rfl
  | s :: S, d => by
    have := filter_two S d
    by_cases e : s.due ≤ d
    · have e2 : ¬ d < s.due := by omega
      simp [e, e2]; omega
    · have e2 : d < s.due := by omega
      simp [e, e2]; omega
theorem insR_length (S : List FIt) (x : FIt) : (insR S x).length = S.length + 1 := by
  unfold insR
  have := filter_two S x.due
  simp only [List.length_append, List.length_cons]
  omega
theorem foldl_length : ∀ (l S : List FIt), (l.foldl insR S).length = S.length + l.length
  | [], S => by simp
  | x :: l, S => by rw [List.foldl_cons, foldl_length l, insR_length, List.length_cons]; omega
theorem isrt_length (l : List FIt) : (isrt l).length = l.length := by unfold isrt; rw [foldl_length]; simp
theorem isrt_succ (h : l[i]? = some x) : isrt (l.take (i + 1)) = insR (isrt (l.take i)) x := by
  unfold isrt
  rw [List.take_add_one, h, List.foldl_append]
  rfl
theorem isrt_one (l : List FIt) : isrt (l.take 1) ++ l.drop 1 = l := by
  cases l with
  | nil => rfl
  | cons a l => simp [isrt, insR]
theorem ins_stop (hQ : ∀ y ∈ Q, x.due < y.due) (hP : ∀ y ∈ P, y.due ≤ x.due) : P ++ x :: Q = insR (P ++ Q) x := by
  unfold insR
  rw [List.filter_append, List.filter_append]
  have h1 : P.filter (fun y => decide (y.due ≤ x.due)) = P := List.filter_eq_self.2 fun y hy => by simpa using hP y hy
  have h2 : Q.filter (fun y => decide (y.due ≤ x.due)) = [] := List.filter_eq_nil_iff.2 fun y hy => by have := hQ y hy; simp; omega
  have h3 : P.filter (fun y => decide (x.due < y.due)) = [] := List.filter_eq_nil_iff.2 fun y hy => by have := hP y hy; simp; omega
  have h4 : Q.filter (fun y => decide (x.due < y.due)) = Q := List.filter_eq_self.2 fun y hy => by simpa using hQ y hy
  rw [h1, h2, h3, h4]
  simp
theorem srt_last (h : Srt ((P ++ [y]) ++ Q)) (hy : y.due ≤ x.due) : ∀ z ∈ P ++ [y], z.due ≤ x.due := by
  intro z hz
  have h1 := (List.pairwise_append.1 h).1
  rcases List.mem_append.1 hz with h2 | h2
  · have := (List.pairwise_append.1 h1).2.2 z h2 y (by simp)
    omega
  · simp only [List.mem_singleton] at h2
    rw [h2]; exact hy
theorem swap_mid {R : List FIt} : ((P ++ y :: x :: R).set P.length x).set (P.length + 1) y = P ++ x :: y :: R := by
  rw [List.set_append_right _ _ (Nat.le_refl _), Nat.sub_self, List.set_cons_zero, List.set_append_right _ _ (by omega)]
  rw [show P.length + 1 - P.length = 0 + 1 by omega, List.set_cons_succ, List.set_cons_zero]
end
/-- Where the inner loop is: the entry x at j, behind it greater ones. -/
structure Ins (l : List FIt) (i : Nat) (x : FIt) (j : Nat) (T : List FIt) : Prop where
  ex : ∃ P Q, T = P ++ x :: (Q ++ l.drop (i + 1)) ∧ P ++ Q = isrt (l.take i) ∧ P.length = j ∧ ∀ y ∈ Q, x.due < y.due
section
variable {l T : List FIt} {x y : FIt} {i j : Nat}
theorem Ins.start (h : l[i]? = some x) : Ins l i x i (isrt (l.take i) ++ l.drop i) := by
  obtain ⟨h1, h2⟩ := List.getElem?_eq_some_iff.1 h
  refine ⟨isrt (l.take i), [], ?_, by simp, by rw [isrt_length, List.length_take]; omega, fun y hy => by cases hy⟩
  rw [List.drop_eq_getElem_cons h1, h2]
  rfl
theorem Ins.length (h : Ins l i x j T) (hi : i < l.length) : T.length = l.length := by
  obtain ⟨P, Q, rfl, h2, h3, _⟩ := h.ex
  have := congrArg List.length h2
  rw [isrt_length, List.length_take, List.length_append] at this
  simp only [List.length_append, List.length_cons, List.length_drop]
  omega
theorem Ins.at (h : Ins l i x j T) : T[j]? = some x := by
  obtain ⟨P, Q, rfl, h2, rfl, _⟩ := h.ex
  rw [List.getElem?_append_right (Nat.le_refl _), Nat.sub_self]; rfl
theorem Ins.zero (h : Ins l i x 0 T) (hx : l[i]? = some x) : T = isrt (l.take (i + 1)) ++ l.drop (i + 1) := by
  obtain ⟨P, Q, rfl, h2, h3, h4⟩ := h.ex
  have hP : P = [] := List.length_eq_zero_iff.1 h3
  subst hP
  rw [isrt_succ hx, ← h2, ← ins_stop h4 (fun y hy => by cases hy)]
  simp
theorem Ins.stop (h : Ins l i x (j + 1) T) (hx : l[i]? = some x) (hy : T[j]? = some y) (hd : ¬ x.due < y.due) : T = isrt (l.take (i + 1)) ++ l.drop (i + 1) := by
  obtain ⟨P, Q, rfl, h2, h3, h4⟩ := h.ex
  obtain ⟨P', z, rfl⟩ : ∃ P' z, P = P' ++ [z] := ⟨P.dropLast, P.getLast (by rintro rfl; simp at h3), (List.dropLast_concat_getLast _).symm⟩
  have hj : P'.length = j := by simpa using h3
  have hz : z = y := by
    rw [List.getElem?_append_left (by simp; omega), List.getElem?_append_right (by omega), hj, Nat.sub_self] at hy
    simpa using hy
  subst hz
  have hs : Srt ((P' ++ [z]) ++ Q) := by rw [h2]; exact isrt_srt _
  rw [isrt_succ hx, ← h2, ← ins_stop h4 (srt_last hs (by omega))]
  simp
theorem Ins.step (h : Ins l i x (j + 1) T) (hy : T[j]? = some y) (hd : x.due < y.due) : Ins l i x j ((T.set j x).set (j + 1) y) := by
  obtain ⟨P, Q, rfl, h2, h3, h4⟩ := h.ex
  obtain ⟨P', z, rfl⟩ : ∃ P' z, P = P' ++ [z] := ⟨P.dropLast, P.getLast (by rintro rfl; simp at h3), (List.dropLast_concat_getLast _).symm⟩
  have hj : P'.length = j := by simpa using h3
  have hz : z = y := by
    rw [List.getElem?_append_left (by simp; omega), List.getElem?_append_right (by omega), hj, Nat.sub_self] at hy
    simpa using hy
  subst hz
  refine ⟨P', z :: Q, ?_, by rw [← h2]; simp, hj, ?_⟩
  · subst hj
    rw [List.append_assoc, List.singleton_append, swap_mid]
    simp
  · intro y hy
    rcases List.mem_cons.1 hy with rfl | hy
    · exact hd
    · exact h4 y hy
theorem Ins.mem (h : Ins l i x j T) (hx : l[i]? = some x) {z : FIt} (hz : z ∈ T) : z ∈ l := by
  obtain ⟨P, Q, rfl, h2, _, _⟩ := h.ex
  rcases List.mem_append.1 hz with h5 | h5
  · exact List.mem_of_mem_take (mem_isrt.1 (by rw [← h2]; exact List.mem_append_left _ h5))
  · rcases List.mem_cons.1 h5 with rfl | h6
    · exact List.mem_of_getElem? hx
    · rcases List.mem_append.1 h6 with h7 | h7
      · exact List.mem_of_mem_take (mem_isrt.1 (by rw [← h2]; exact List.mem_append_right _ h7))
      · exact List.mem_of_mem_drop h7
end
end Go.Proofs.YtepaanpdjadakaaGreatDoor

/-! The insertion sort of flows by their ends: the walk. -/
namespace Go.Proofs.YtepaanpdjadakaaGreatDoor
open Go Go.RowKit

theorem cmpI_neg {a b : Int} (h : a < b) : cmpI a b = -1 := by unfold cmpI; rw [if_pos h]
theorem cmpI_nneg {a b : Int} (h : ¬ a < b) : 0 ≤ cmpI a b := by unfold cmpI; rw [if_neg h]; split <;> omega
section
variable {B : Nat} {w0 w w' : World} {A : HP} {l : List FIt} {g : Nat} {v : Value}
attribute [local irreducible] wpOrd
set_option maxRecDepth 8000 in
set_option maxHeartbeats 8000000 in
theorem insertW_any (eg : ∀ args w, (callFunc g args).run Tryz.prog w = .ok (.enter g args) w) (hn : l.length ≤ 19)
    (hc : ∀ x y W G, x ∈ l → y ∈ l → Sat B w0 W (A • G) → Calls Tryz.prog g #[.pointer (some ⟨x.key.p, 0, none⟩), .pointer (some ⟨y.key.p, 0, none⟩)] W fun e w' => e = .returned (.int .i64 (cmpI x.due y.due)) ∧ Sat B w0 w' (A • G))
    (h : Sat B w0 w (arr 69 1 v l.length (l.flatMap ptrC) • A)) :
    Calls Tryz.prog 74 #[v, .int .i64 0, .int .i64 l.length, .func (.func g) #[] #[]] w fun e w' => e = .returned (.tuple #[]) ∧ Sat B w0 w' (arr 69 1 v l.length ((isrt l).flatMap ptrC) • A) := by
  obtain ⟨A0, c0, rfl⟩ := h.arr_form
  have HC := Lib.hid hc
  have h1 : Sat B w0 w (arr 69 1 (.slice A0 l.length c0) l.length ((isrt (l.take 1) ++ l.drop 1).flatMap ptrC) • A) := by rw [isrt_one]; exact h
  clear hc h
  go_enter Tryz.func74, Tryz.ntmps74
  go_wp2_with fail
  go_loopw [8] (fun s wr => ∃ k : Nat, 1 ≤ k ∧ k ≤ l.length + 1 ∧ s = .int .i64 k ∧ Sat B w0 wr (arr 69 1 (.slice A0 l.length c0) l.length ((isrt (l.take k) ++ l.drop k).flatMap ptrC) • A)) (fun s _ => l.length + 1 - (intOf s).toNat)
  case atStart => exact ⟨1, Nat.le_refl _, by omega, rfl, h1⟩
  case round =>
    clear h1
    obtain ⟨k, hk1, hk, rfl, hS⟩ := hrel
    by_cases hlt : k < l.length
    · obtain ⟨x, hxk⟩ : ∃ x, l[k]? = some x := ⟨_, List.getElem?_eq_getElem hlt⟩
      have hltz : (k : Int) < l.length := by omega
      have HI := Lib.hid (Ins.start hxk)
      have HX := Lib.hid hxk
      clear hxk
      generalize hT : isrt (l.take k) ++ l.drop k = T0 at *
      clear hT
      go_wp2_with fail
      go_loopw [9] (fun s wr => ∃ (j : Nat) (T : List FIt), j ≤ k ∧ s = .int .i64 j ∧ Sat B w0 wr (arr 69 1 (.slice A0 l.length c0) l.length (T.flatMap ptrC) • A) ∧ Hid (Ins l k x j T)) (fun s _ => (intOf s).toNat)
      case atStart => exact ⟨k, T0, Nat.le_refl _, rfl, hS, HI⟩
      case round =>
        clear hS HI
        obtain ⟨j, T, hjk, rfl, hS, HI⟩ := hrel
        cases j with
        | zero =>
          have hS' := hS.drew
          have HF := Lib.hid (HI.out.zero HX.out)
          clear hS
          have h00 : decide (((0 : Nat) : Int) > 0) = false := by decide
          go_wp2_with fail
          try go_frame
          refine wp_region_ord [(0, .pure), (1, .pure), (2, .pure), (3, .pure), (4, .pure), (5, .pure), (6, .pure), (7, .pure), (8, .quiet), (9, .pure), (10, .pure), (11, .pure), (12, .pure), (13, .quiet), (14, .acts), (15, .pure), (16, .pure)] (by kernel_rfl) (by kernel_rfl)
            (fun w' => True) trivial ?_
          iterate 4 (refine ord_pure rfl rfl rfl (fun K' hK => ?_); go_big_quiet_op; refine hK _ ?_; clear hK K')
          iterate 12 (refine ord_skip' rfl rfl (fun K' hK => ?_); go_simp; refine hK _ ?_; clear hK K')
          iterate 1 (refine ord_pure rfl rfl rfl (fun K' hK => ?_); go_big_quiet_op; refine hK _ ?_; clear hK K')
          refine ord_nil ?_
          go_wp2_with fail
          go_roundw
          case rel => exact ⟨k + 1, by omega, by omega, by go_num, by rw [← HF.out]; exact hS'⟩
          case measure => simp [intOf]; omega
        | succ jj =>
          have hTl := HI.out.length hlt
          obtain ⟨y, hy⟩ : ∃ y, T[jj]? = some y := ⟨_, List.getElem?_eq_getElem (by omega)⟩
          have hx := HI.out.at
          have hym := HI.out.mem HX.out (List.mem_of_getElem? hy)
          have hxm := List.mem_of_getElem? HX.out
          rcases hS.arr_open with ⟨_, h0, _, _⟩ | ⟨b, cap, cur, hv, q1, q2, q3, q4, hO⟩
          · omega
          simp only [Value.slice.injEq] at hv
          obtain ⟨rfl, _, rfl⟩ := hv
          have hO := hO.drew
          have dx := cur_at ptrC_length q4 hx 0 _ rfl
          have dy := cur_at ptrC_length q4 hy 0 _ rfl
          rw [Nat.mul_one, Nat.add_zero] at dx dy
          have hcall := HC.out x y wr.drew _ hxm hym hO.swap
          have HY := Lib.hid hy
          have Q4 := Lib.hid q4
          have Q3 := Lib.hid q3
          have hq3 : jj + 1 < cur.size := by rw [q3]; omega
          clear hS hx hy hym hxm q4
          have hps : ptrC x = [.pointer (some ⟨x.key.p, 0, none⟩)] ∧ ptrC y = [.pointer (some ⟨y.key.p, 0, none⟩)] := ⟨rfl, rfl⟩
          have HPS := Lib.hid hps
          clear hps
          have hjz : (0 : Int) < ((jj + 1 : Nat) : Int) := by omega
          cases hd : decide (x.due < y.due) with
          | true =>
            have hd := of_decide_eq_true hd
            rw [cmpI_neg hd] at hcall
            have HST := Lib.hid (HI.out.step HY.out hd)
            clear hd
            have t1 := take_splice_set ptrC_length (by decide) Q4.out hTl (by rw [Q3.out]; exact Nat.mul_le_mul_right _ q1) (show jj + 1 < l.length by omega) y
            rw [HPS.out.2, Nat.mul_one (jj + 1), splice_one hq3] at t1
            have t2 := take_splice_set ptrC_length (by decide) t1 (by simp; exact hTl) (by rw [Array.size_setIfInBounds, Q3.out]; exact Nat.mul_le_mul_right _ q1) (show jj < l.length by omega) x
            rw [HPS.out.1, Nat.mul_one jj, splice_one (by rw [Array.size_setIfInBounds]; omega), List.set_comm _ _ (by omega)] at t2
            have T2 := Lib.hid t2
            clear t1 t2
            generalize x.key.p = xp at *
            generalize y.key.p = yp at *
            have Dxp := Lib.hid dx
            have Dyp := Lib.hid dy
            clear dx dy
            go_wp2_with fail
            try go_frame
            refine wp_region_ord [(0, .pure), (1, .pure), (2, .pure), (3, .pure), (4, .pure), (5, .pure), (6, .pure), (7, .pure), (8, .quiet), (9, .pure), (10, .pure), (11, .pure), (12, .pure), (13, .quiet), (14, .acts), (15, .pure), (16, .pure)] (by kernel_rfl) (by kernel_rfl)
              (fun w' => Sat B w0 w' (blk b (.cells cur 69 (0, 0)) • A)) hO ?_
            iterate 8 (refine ord_pure rfl rfl rfl (fun K' hK => ?_); go_big_quiet_op; refine hK _ ?_; clear hK K')
            refine ord_load (t := 69) rfl rfl rfl (p := .pointer (some ⟨b, jj + 1, none⟩)) (v := .pointer (some ⟨xp, 0, none⟩)) rfl (fun w' hC => load_one Tryz.underlying69 rfl (cell_heap hC.heap Dxp.out)) (fun K' hK => ?_)
            go_simp
            refine hK _ ?_
            clear hK K'
            iterate 4 (refine ord_pure rfl rfl rfl (fun K' hK => ?_); go_big_quiet_op; refine hK _ ?_; clear hK K')
            refine ord_load (t := 69) rfl rfl rfl (p := .pointer (some ⟨b, jj, none⟩)) (v := .pointer (some ⟨yp, 0, none⟩)) rfl (fun w' hC => load_one Tryz.underlying69 rfl (cell_heap hC.heap Dyp.out)) (fun K' hK => ?_)
            go_simp
            refine hK _ ?_
            clear hK K'
            refine ord_acts rfl rfl (fun K' hK => ?_)
            go_simp
            go_at_fn g
            refine hcall.mono ?_
            rintro e w2 ⟨rfl, hS2⟩
            refine hK _ _ hS2.swap ?_
            clear hK K'
            go_simp
            iterate 2 (refine ord_pure rfl rfl rfl (fun K' hK => ?_); go_big_quiet_op; refine hK _ ?_; clear hK K')
            refine ord_nil ?_
            have hP := hS2.swap
            clear hS2 hcall hO
            obtain ⟨W1, s1, hP1⟩ := one_store (o := jj + 1) (ty := 69) (u := .pointer (some ⟨yp, 0, none⟩)) hP.drew (by kernel_rfl) hq3 rfl rfl
            obtain ⟨W2, s2, hP2⟩ := one_store (o := jj) (ty := 69) (u := .pointer (some ⟨xp, 0, none⟩)) hP1 (by kernel_rfl) (by simp; omega) rfl rfl
            go_wp2_with fail
            try go_frame
            refine wp_region_ord [(0, .pure), (1, .pure), (2, .pure), (3, .pure), (4, .pure), (5, .pure), (6, .pure), (7, .pure), (8, .pure), (9, .quiet), (10, .pure), (11, .pure), (12, .pure), (13, .quiet), (14, .pure), (15, .seals), (16, .pure), (17, .seals)] (by kernel_rfl) (by kernel_rfl)
              (fun w' => Sat B w0 w' (blk b (.cells cur 69 (0, 0)) • A)) hP.drew ?_
            iterate 9 (refine ord_pure rfl rfl rfl (fun K' hK => ?_); go_big_quiet_op; refine hK _ ?_; clear hK K')
            refine ord_load (t := 69) rfl rfl rfl (p := .pointer (some ⟨b, jj, none⟩)) (v := .pointer (some ⟨yp, 0, none⟩)) rfl (fun w' hC => load_one Tryz.underlying69 rfl (cell_heap hC.heap Dyp.out)) (fun K' hK => ?_)
            go_simp
            refine hK _ ?_
            clear hK K'
            iterate 3 (refine ord_pure rfl rfl rfl (fun K' hK => ?_); go_big_quiet_op; refine hK _ ?_; clear hK K')
            refine ord_load (t := 69) rfl rfl rfl (p := .pointer (some ⟨b, jj + 1, none⟩)) (v := .pointer (some ⟨xp, 0, none⟩)) rfl (fun w' hC => load_one Tryz.underlying69 rfl (cell_heap hC.heap Dxp.out)) (fun K' hK => ?_)
            go_simp
            refine hK _ ?_
            clear hK K'
            iterate 1 (refine ord_pure rfl rfl rfl (fun K' hK => ?_); go_big_quiet_op; refine hK _ ?_; clear hK K')
            refine ord_store rfl rfl rfl rfl (p := .pointer (some ⟨b, jj + 1, none⟩)) (v := .pointer (some ⟨yp, 0, none⟩)) rfl rfl s1 (fun _ => True) trivial ?_
            iterate 1 (refine ord_pure rfl rfl rfl (fun K' hK => ?_); go_big_quiet_op; refine hK _ ?_; clear hK K')
            refine ord_store rfl rfl rfl rfl (p := .pointer (some ⟨b, jj, none⟩)) (v := .pointer (some ⟨xp, 0, none⟩)) rfl rfl s2 (fun _ => True) trivial ?_
            refine ord_nil ?_
            go_wp2_with fail
            go_roundw
            case rel => exact ⟨jj, _, by omega, by go_num, Sat.arr_shut q1 q2 (by simpa using Q3.out) T2.out hP2, HST⟩
            case measure => simp [intOf]
          | false =>
            have hd := of_decide_eq_false hd
            have hcn := cmpI_nneg hd
            have HST := Lib.hid (HI.out.stop HX.out HY.out hd)
            generalize cmpI x.due y.due = cv at *
            have hcf : decide (cv < 0) = false := decide_eq_false (by omega)
            clear hd hcn
            generalize x.key.p = xp at *
            generalize y.key.p = yp at *
            have Dxp := Lib.hid dx
            have Dyp := Lib.hid dy
            clear dx dy
            go_wp2_with fail
            try go_frame
            refine wp_region_ord [(0, .pure), (1, .pure), (2, .pure), (3, .pure), (4, .pure), (5, .pure), (6, .pure), (7, .pure), (8, .quiet), (9, .pure), (10, .pure), (11, .pure), (12, .pure), (13, .quiet), (14, .acts), (15, .pure), (16, .pure)] (by kernel_rfl) (by kernel_rfl)
              (fun w' => Sat B w0 w' (blk b (.cells cur 69 (0, 0)) • A)) hO ?_
            iterate 8 (refine ord_pure rfl rfl rfl (fun K' hK => ?_); go_big_quiet_op; refine hK _ ?_; clear hK K')
            refine ord_load (t := 69) rfl rfl rfl (p := .pointer (some ⟨b, jj + 1, none⟩)) (v := .pointer (some ⟨xp, 0, none⟩)) rfl (fun w' hC => load_one Tryz.underlying69 rfl (cell_heap hC.heap Dxp.out)) (fun K' hK => ?_)
            go_simp
            refine hK _ ?_
            clear hK K'
            iterate 4 (refine ord_pure rfl rfl rfl (fun K' hK => ?_); go_big_quiet_op; refine hK _ ?_; clear hK K')
            refine ord_load (t := 69) rfl rfl rfl (p := .pointer (some ⟨b, jj, none⟩)) (v := .pointer (some ⟨yp, 0, none⟩)) rfl (fun w' hC => load_one Tryz.underlying69 rfl (cell_heap hC.heap Dyp.out)) (fun K' hK => ?_)
            go_simp
            refine hK _ ?_
            clear hK K'
            refine ord_acts rfl rfl (fun K' hK => ?_)
            go_simp
            go_at_fn g
            refine hcall.mono ?_
            rintro e w2 ⟨rfl, hS2⟩
            refine hK _ _ hS2.swap ?_
            clear hK K'
            go_simp
            iterate 2 (refine ord_pure rfl rfl rfl (fun K' hK => ?_); go_big_quiet_op; refine hK _ ?_; clear hK K')
            refine ord_nil ?_
            have hP := Sat.arr_shut q1 q2 Q3.out Q4.out hS2.swap
            rw [HST.out] at hP
            have HF := Lib.hid hP
            clear hS2 hcall hO hP
            go_wp2_with fail
            go_roundw
            case rel => exact ⟨k + 1, by omega, by omega, by go_num, HF.out⟩
            case measure => simp [intOf]; omega
    · have hstop : (l.length : Int) ≤ k := by omega
      have ht : isrt (l.take k) ++ l.drop k = isrt l := by rw [List.take_of_length_le (by omega), List.drop_of_length_le (by omega), List.append_nil]
      rw [ht] at hS
      have HF := Lib.hid hS
      clear ht hS
      go_wp2_with fail
      refine bodyPost_end (results_none (by rfl) _ _ _) (by rfl) ?_
      exact ⟨rfl, HF.out⟩
end
end Go.Proofs.YtepaanpdjadakaaGreatDoor

/-! Expire of flows. -/
namespace Go.Proofs.YtepaanpdjadakaaGreatDoor
open Go Go.RowKit

theorem run_eqInS (w : World) (d : Nat) (t e : TypeId) (a : Option Addr) (l c : Nat) (h : Tryz.prog.underlying t = some (.slice e)) : (Op.equalIn (d + 1) t (.slice a l c) (.slice none 0 0)).run Tryz.prog w = .ok a.isNone w := by
  cases a <;> simp [Op.equalIn, run_underlying h]
theorem run_eqlS_nil (w : World) (t e : TypeId) (a : Option Addr) (l c : Nat) (h : Tryz.prog.underlying t = some (.slice e)) : (binOp .eql t (.slice a l c) (.slice none 0 0)).run Tryz.prog w = .ok (.bool a.isNone) w := by
  simp only [binOp]
  have h1 := run_eqInS w 9999 t e a l c h
  simp [Op.equal, Op.maxDepth, h1]
section
variable {B : Nat} {w0 w w' : World} {A F : HP} {l : List FIt} {g : Nat} {v : Value}
set_option maxRecDepth 8000 in
set_option maxHeartbeats 4000000 in
theorem cloneW_any (hn : l.length ≤ 1000) (h : Sat B w0 w (arr 69 1 v l.length (l.flatMap ptrC) • F)) :
    Calls Tryz.prog 38 #[v] w fun e w' => ∃ v', e = .returned v' ∧ Sat B w0 w' (arr 69 1 v' l.length (l.flatMap ptrC) • arr 69 1 v l.length (l.flatMap ptrC) • F) := by
  rcases h.arr_open with ⟨rfl, h0, h1, hF⟩ | ⟨b, cap, cur, rfl, q1, q2, q3, q4, hO⟩
  · have hl0 : l = [] := List.eq_nil_of_length_eq_zero h0
    subst hl0
    have hS := arr_nil (e := 69) (sz := 1) h
    clear h hF h0 h1 hn
    have hq := run_eqlS_nil w 64 69 none 0 0 Tryz.underlying64
    generalize hL : arr 69 1 (.slice none 0 0) ([] : List FIt).length (([] : List FIt).flatMap ptrC) = AA at *
    go_enter Tryz.func38, Tryz.ntmps38
    go_wp2_with fail
    go_ret
    subst hL
    exact ⟨_, rfl, hS⟩
  · have hX := h.alloc (.cells #[] 69)
    have hA := Sat.arr_shut (e := 69) (sz := 1) (n := 0) (cap := 0) (xs := []) (Nat.le_refl _) (Nat.zero_le _) rfl rfl hX
    obtain ⟨i, hi, hz⟩ := Option.map_eq_some_iff.1 (show (Tryz.prog.info? 69).map (fun i => (i.zero, i.size, i.bytes)) = some (some (.pointer none), 1, 8) by kernel_rfl)
    obtain ⟨v', w1, hr, hS⟩ := hA.append (P := Tryz.prog) (t := 64) (ty := 64) (m := l.length) (news := l.flatMap ptrC) (x := .slice (some ⟨b, 0, none⟩) l.length cap) Tryz.underlying64 (by kernel_rfl : (Tryz.prog.info? 69).map (fun i => (i.zero, i.size, i.bytes)) = some (some (.pointer none), 1, 8)) rfl (by decide) hA.pull2.arr_reads (by rw [flat_length ptrC_length]) (ptrC_one l) (by unfold maxLen; omega) (by omega)
    rw [Nat.zero_add, List.nil_append] at hS
    have HS := Lib.hid hS
    have hq := run_eqlS_nil w 64 69 (some ⟨b, 0, none⟩) l.length cap Tryz.underlying64
    clear hX hA hS hi hz q3 q4 hO h
    go_enter Tryz.func38, Tryz.ntmps38
    go_wp2_with (refine wpList_append_run rfl _ _ 64 rfl rfl rfl hr (stop_ ?_))
    unfold Stop
    go_wp2_with fail
    go_ret
    exact ⟨_, rfl, HS.out⟩
set_option maxRecDepth 8000 in
set_option maxHeartbeats 4000000 in
theorem stableW_any (eg : ∀ args w, (callFunc g args).run Tryz.prog w = .ok (.enter g args) w) (hn : l.length ≤ 19)
    (hc : ∀ x y W G, x ∈ l → y ∈ l → Sat B w0 W (A • G) → Calls Tryz.prog g #[.pointer (some ⟨x.key.p, 0, none⟩), .pointer (some ⟨y.key.p, 0, none⟩)] W fun e w' => e = .returned (.int .i64 (cmpI x.due y.due)) ∧ Sat B w0 w' (A • G))
    (h : Sat B w0 w (arr 69 1 v l.length (l.flatMap ptrC) • A)) :
    Calls Tryz.prog 56 #[v, .int .i64 l.length, .func (.func g) #[] #[]] w fun e w' => e = .returned (.tuple #[]) ∧ Sat B w0 w' (arr 69 1 v l.length ((isrt l).flatMap ptrC) • A) := by
  obtain ⟨A0, c0, rfl⟩ := h.arr_form
  have c1 := insertW_any eg hn hc h
  clear hc h
  have hz : (l.length : Int) ≤ 19 := by omega
  have h1 : (l.length : Int) < 20 := by omega
  have h2 : (l.length : Int) ≤ 20 := by omega
  clear hz hn
  go_enter Tryz.func56, Tryz.ntmps56
  go_wp2_with fail
  go_loopw [7, 8] (fun s7 s8 wr => s7 = .int .i64 0 ∧ s8 = .int .i64 20 ∧ wr = w) (fun _ _ _ => 0)
  case atStart => exact ⟨rfl, rfl, rfl⟩
  case round =>
    obtain ⟨rfl, rfl, rfl⟩ := hrel
    go_wp2_with fail
    refine c1.mono ?_
    rintro e w1 ⟨rfl, hS1⟩
    clear c1
    go_wp2_with fail
    go_loopw [6] (fun s wr => s = .int .i64 20 ∧ wr = w1) (fun _ _ => 0)
    case atStart => exact ⟨rfl, rfl⟩
    case round =>
      obtain ⟨rfl, rfl⟩ := hrel
      go_wp2_with fail
      refine bodyPost_end (results_none (by rfl) _ _ _) (by rfl) ?_
      exact ⟨rfl, hS1⟩
set_option maxRecDepth 8000 in
set_option maxHeartbeats 4000000 in
theorem sortW_any (eg : ∀ args w, (callFunc g args).run Tryz.prog w = .ok (.enter g args) w) (hn : l.length ≤ 19)
    (hc : ∀ x y W G, x ∈ l → y ∈ l → Sat B w0 W (A • G) → Calls Tryz.prog g #[.pointer (some ⟨x.key.p, 0, none⟩), .pointer (some ⟨y.key.p, 0, none⟩)] W fun e w' => e = .returned (.int .i64 (cmpI x.due y.due)) ∧ Sat B w0 w' (A • G))
    (h : Sat B w0 w (arr 69 1 v l.length (l.flatMap ptrC) • A)) :
    Calls Tryz.prog 40 #[v, .func (.func g) #[] #[]] w fun e w' => e = .returned (.tuple #[]) ∧ Sat B w0 w' (arr 69 1 v l.length ((isrt l).flatMap ptrC) • A) := by
  obtain ⟨A0, c0, rfl⟩ := h.arr_form
  have c1 := stableW_any eg hn hc h
  clear hc h
  go_enter Tryz.func40, Tryz.ntmps40
  go_wp2_with fail
  refine c1.mono ?_
  rintro e w1 ⟨rfl, hS1⟩
  go_wp2_with fail
  refine bodyPost_end (results_none (by rfl) _ _ _) (by rfl) ?_
  exact ⟨rfl, hS1⟩
attribute [local irreducible] wpOrd
set_option maxRecDepth 8000 in
set_option maxHeartbeats 4000000 in
theorem exCmp_any {x y : FIt} (hx : w.cell? ⟨x.key.p, 39, none⟩ = some (.int .u64 x.due)) (hy : w.cell? ⟨y.key.p, 39, none⟩ = some (.int .u64 y.due)) : Calls Tryz.prog 41 #[.pointer (some ⟨x.key.p, 0, none⟩), .pointer (some ⟨y.key.p, 0, none⟩)] w fun e w' => e = .returned (.int .i64 (cmpI x.due y.due)) ∧ w' = w.drew := by
  have c1 := cmpU_any x.due y.due w.drew
  have dx : w.drew.cell? ⟨x.key.p, 39, none⟩ = some (.int .u64 x.due) := hx
  have dy : w.drew.cell? ⟨y.key.p, 39, none⟩ = some (.int .u64 y.due) := hy
  have HD := Lib.hid (And.intro dx dy)
  clear hx hy dx dy
  generalize x.key.p = xp at *
  generalize y.key.p = yp at *
  generalize x.due = xd at *
  generalize y.due = yd at *
  go_enter Tryz.func41, Tryz.ntmps41
  go_wp2_with fail
  refine wp_region_ord [(0, .pure), (1, .pure), (2, .pure), (3, .pure), (4, .quiet), (5, .pure), (6, .pure), (7, .pure), (8, .pure), (9, .quiet), (10, .seals), (11, .pure)] (by kernel_rfl) (by kernel_rfl)
    (fun w' => w' = w.drew) rfl ?_
  iterate 4 (refine ord_pure rfl rfl rfl (fun K' hK => ?_); go_big_quiet_op; refine hK _ ?_; clear hK K')
  refine ord_load (t := 30) rfl rfl rfl (p := .pointer (some ⟨xp, 39, none⟩)) (v := .int .u64 xd) rfl (fun w' hC => load_one Tryz.underlying30 rfl (by rw [hC]; exact HD.out.1)) (fun K' hK => ?_)
  go_simp
  refine hK _ ?_
  clear hK K'
  iterate 4 (refine ord_pure rfl rfl rfl (fun K' hK => ?_); go_big_quiet_op; refine hK _ ?_; clear hK K')
  refine ord_load (t := 30) rfl rfl rfl (p := .pointer (some ⟨yp, 39, none⟩)) (v := .int .u64 yd) rfl (fun w' hC => load_one Tryz.underlying30 rfl (by rw [hC]; exact HD.out.2)) (fun K' hK => ?_)
  go_simp
  refine hK _ ?_
  clear hK K'
  refine ord_seals rfl rfl (fun K' hK => ?_)
  go_simp
  refine c1.mono ?_
  rintro e w2 ⟨rfl, rfl⟩
  refine hK (fun _ => True) _ _ trivial ?_
  clear hK K'
  go_simp
  iterate 1 (refine ord_pure rfl rfl rfl (fun K' hK => ?_); go_big_quiet_op; refine hK _ ?_; clear hK K')
  refine ord_nil ?_
  go_wp2_with fail
  go_ret
  exact ⟨rfl, rfl⟩
set_option maxRecDepth 8000 in
set_option maxHeartbeats 4000000 in
theorem exLate_any {x : FIt} {bn : Nat} {now : Int} (hx : w.cell? ⟨x.key.p, 39, none⟩ = some (.int .u64 x.due)) (hb : w.cell? ⟨bn, 0, none⟩ = some (.int .u64 now)) : Calls Tryz.prog 39 #[.pointer (some ⟨x.key.p, 0, none⟩), .pointer (some ⟨bn, 0, none⟩)] w fun e w' => e = .returned (.bool (decide (now < x.due))) ∧ w' = w.drew := by
  have dx : w.drew.cell? ⟨x.key.p, 39, none⟩ = some (.int .u64 x.due) := hx
  have dy : w.drew.cell? ⟨bn, 0, none⟩ = some (.int .u64 now) := hb
  have HD := Lib.hid (And.intro dx dy)
  clear hx hb dx dy
  generalize x.key.p = xp at *
  generalize x.due = xd at *
  go_enter Tryz.func39, Tryz.ntmps39
  go_wp2_with fail
  refine wp_region_ord [(0, .pure), (1, .pure), (2, .pure), (3, .pure), (4, .quiet), (5, .quiet), (6, .pure), (7, .pure)] (by kernel_rfl) (by kernel_rfl)
    (fun w' => w' = w.drew) rfl ?_
  iterate 4 (refine ord_pure rfl rfl rfl (fun K' hK => ?_); go_big_quiet_op; refine hK _ ?_; clear hK K')
  refine ord_load (t := 30) rfl rfl rfl (p := .pointer (some ⟨xp, 39, none⟩)) (v := .int .u64 xd) rfl (fun w' hC => load_one Tryz.underlying30 rfl (by rw [hC]; exact HD.out.1)) (fun K' hK => ?_)
  go_simp
  refine hK _ ?_
  clear hK K'
  refine ord_load (t := 30) rfl rfl rfl (p := .pointer (some ⟨bn, 0, none⟩)) (v := .int .u64 now) rfl (fun w' hC => load_one Tryz.underlying30 rfl (by rw [hC]; exact HD.out.2)) (fun K' hK => ?_)
  go_simp
  refine hK _ ?_
  clear hK K'
  iterate 2 (refine ord_pure rfl rfl rfl (fun K' hK => ?_); go_big_quiet_op; refine hK _ ?_; clear hK K')
  refine ord_nil ?_
  go_wp2_with fail
  go_ret
  exact ⟨rfl, rfl⟩
end
end Go.Proofs.YtepaanpdjadakaaGreatDoor

/-! Expire of flows, in plain words. -/
namespace Go.Proofs.YtepaanpdjadakaaGreatDoor
open Go Go.RowKit

/-- What ends by now, in its order. -/
def dueF (now : Int) (R : List FIt) : List FIt := isrt (R.filter fun x => !decide (now < x.due))
def dropAll (R L : List FIt) : List FIt := R.filter fun y => !L.any fun x => isW x.key.tup y
def tupsF (L : List FIt) : List Tup := L.map (·.key.tup)
section
variable {R L S : List FIt} {x y : FIt} {now : Int} {i : Nat}
theorem insR_perm (S : List FIt) (x : FIt) : (insR S x).Perm (x :: S) := by
  unfold insR
  refine List.perm_middle.trans (List.Perm.cons x ?_)
  have h : (S.filter fun y => decide (x.due < y.due)) = S.filter fun y => !decide (y.due ≤ x.due) := by
    apply List.filter_congr
    intro y _
    by_cases e : y.due ≤ x.due
    · rw [decide_eq_true e, decide_eq_false (by omega)]; rfl
    · rw [decide_eq_false e, decide_eq_true (by omega)]; rfl
  rw [h]
  exact List.filter_append_perm _ _
theorem foldl_perm : ∀ (l S : List FIt), (l.foldl insR S).Perm (l ++ S)
  | [], _ => List.Perm.refl _
  | x :: l, S => by
    rw [List.foldl_cons]
    refine (foldl_perm l _).trans ?_
    refine ((insR_perm S x).append_left l).trans ?_
    exact List.perm_middle
theorem isrt_perm (l : List FIt) : (isrt l).Perm l := by
  have := foldl_perm l []
  rwa [List.append_nil] at this
theorem dueF_mem : x ∈ dueF now R ↔ x ∈ R ∧ x.due ≤ now := by
  unfold dueF
  rw [mem_isrt, List.mem_filter]
  simp
theorem dueF_KN (h : KNW R) : KNW (dueF now R) := ((isrt_perm _).map _).nodup_iff.2 (h.filter _)
theorem dropAll_nil (R : List FIt) : dropAll R [] = R := by unfold dropAll; simp
theorem dropAll_step (h : L[i]? = some x) : (dropAll R (L.take i)).filter (fun y => !isW x.key.tup y) = dropAll R (L.take (i + 1)) := by
  unfold dropAll
  rw [List.filter_filter, List.take_add_one, h]
  apply List.filter_congr
  intro y _
  rw [List.any_append]
  simp [Bool.and_comm]
theorem dropAll_KN (h : KNW R) : KNW (dropAll R L) := h.filter _
theorem dropAll_at (hn : KNW L) (hm : ∀ x ∈ L, x ∈ R) (h : L[i]? = some x) : ∃ k : Nat, (dropAll R (L.take i))[k]? = some x := by
  apply List.mem_iff_getElem?.1
  unfold dropAll
  rw [List.mem_filter]
  refine ⟨hm x (List.mem_of_getElem? h), ?_⟩
  rw [Bool.not_eq_true', List.any_eq_false]
  intro y hy
  obtain ⟨j, hj⟩ := List.mem_iff_getElem?.1 hy
  have hji : j < i := by
    have := (List.getElem?_eq_some_iff.1 hj).1
    rw [List.length_take] at this
    omega
  rw [List.getElem?_take_of_lt hji] at hj
  intro he
  have he : x.key.tup = y.key.tup := by simpa [isW] using he
  have h1 : (L.map (·.key.tup))[j]? = (L.map (·.key.tup))[i]? := by rw [List.getElem?_map, List.getElem?_map, hj, h]; simp [he]
  have := (List.getElem?_inj (by simpa using (List.getElem?_eq_some_iff.1 hj).1) hn).1 h1
  omega
theorem dropAll_due (hn : KNW R) : dropAll R (dueF now R) = R.filter fun x => decide (now < x.due) := by
  unfold dropAll
  apply List.filter_congr
  intro y hy
  by_cases e : now < y.due
  · rw [decide_eq_true e, Bool.not_eq_true', List.any_eq_false]
    intro x hx he
    have he : y.key.tup = x.key.tup := by simpa [isW] using he
    obtain ⟨hx, hd⟩ := dueF_mem.1 hx
    obtain ⟨j, hj⟩ := List.mem_iff_getElem?.1 hx
    obtain ⟨k, hk⟩ := List.mem_iff_getElem?.1 hy
    have h1 : (R.map (·.key.tup))[j]? = (R.map (·.key.tup))[k]? := by rw [List.getElem?_map, List.getElem?_map, hj, hk]; simp [he]
    have := (List.getElem?_inj (by simpa using (List.getElem?_eq_some_iff.1 hj).1) hn).1 h1
    subst this
    rw [hj] at hk
    cases hk
    omega
  · rw [decide_eq_false e, Bool.not_eq_false', List.any_eq_true]
    exact ⟨y, dueF_mem.2 ⟨hy, by omega⟩, by simp [isW]⟩
end
end Go.Proofs.YtepaanpdjadakaaGreatDoor

/-! Expire of flows: the walk. -/
namespace Go.Proofs.YtepaanpdjadakaaGreatDoor
open Go Go.RowKit

section
variable {B : Nat} {w0 w w' : World} {F : HP} {R : List FIt} {t room : Nat} {next : Int}
theorem tup_info : (Tryz.prog.info? 37).map (fun i => (i.zero, i.size, i.bytes)) = some (some (.agg (Tup.enc ⟨zAdr, zAdr, 0, 0, 0⟩).toArray), 37, 64) := by kernel_rfl
theorem tup_info2 : (Tryz.prog.info? 37).map (fun i => (i.zero, i.size)) = some (some (.agg (Tup.enc ⟨zAdr, zAdr, 0, 0, 0⟩).toArray), 37) := by kernel_rfl
theorem tup_load0 {x : FIt} {W : World} (h : W.heap[x.key.p]? = some (.cells (flC x).toArray 72)) : (Instr.loadAt 37 (.pointer (some ⟨x.key.p, 0, none⟩))).run Tryz.prog W = .ok (.agg x.key.tup.enc.toArray) W :=
  run_loadAt_row h Tryz.underlying37 rfl (by rw [Tup.enc_length]; kernel_rfl) (fun j u hu => by
    have hj : j < 37 := by have := (List.getElem?_eq_some_iff.1 hu).1; rwa [Tup.enc_length] at this
    rw [List.getElem?_toArray, Nat.zero_add, flC_tup x j hj]; exact hu)
set_option maxRecDepth 8000 in
set_option maxHeartbeats 8000000 in
theorem flExpire_any (h : Sat B w0 w (fltab t room R next • F)) (hn : KNW R) (now : Int) (hd : (dueF now R).length ≤ 19) : Calls Tryz.prog 13 #[.pointer (some ⟨t, 0, none⟩), .int .u64 now] w fun e w' =>
    ∃ v, e = .returned v ∧ Sat B w0 w' (arr 37 37 v (dueF now R).length ((tupsF (dueF now R)).flatMap Tup.enc) • fltab t room (R.filter fun x => decide (now < x.due)) next • F) := by
  have eg1 : ∀ args w, (callFunc 39 args).run Tryz.prog w = .ok (.enter 39 args) w := enters_of Tryz.func39 (by kernel_rfl) rfl
  have eg2 : ∀ args w, (callFunc 41 args).run Tryz.prog w = .ok (.enter 41 args) w := enters_of Tryz.func41 (by kernel_rfl) rfl
  obtain ⟨A, c, q, hg, hl1, hl2, hT⟩ := h.fl_open
  have hRl : R.length ≤ 1000 := by omega
  have hX := hT.alloc (.cells #[.int .u64 now] 30)
  have d1 : (w.alloc (.cells #[.int .u64 now] 30)).cell? ⟨t, 0, none⟩ = some (.slice A R.length c) := cell_heap hX.pull2.heap rfl
  generalize hbn : w.heap.size = bn at *
  have c1 := cloneW_any hRl (hX.to (by ac_rfl : _ = arr 69 1 (.slice A R.length c) R.length (R.flatMap ptrC) • blk bn (.cells #[.int .u64 now] 30) • blk t (.cells #[.slice A R.length c, .pointer (some ⟨q, 0, none⟩), .int .i64 next] 66) • queue q room (ents R) • its R F))
  have hit : ∀ x ∈ R, ∀ W G, Sat B w0 W ((arr 69 1 (.slice A R.length c) R.length (R.flatMap ptrC) • blk bn (.cells #[.int .u64 now] 30) • blk t (.cells #[.slice A R.length c, .pointer (some ⟨q, 0, none⟩), .int .i64 next] 66) • queue q room (ents R) • its R F) • G) → W.cell? ⟨x.key.p, 39, none⟩ = some (.int .u64 x.due) ∧ W.cell? ⟨bn, 0, none⟩ = some (.int .u64 now) := by
    intro x hx W G hW
    obtain ⟨j, hj⟩ := List.mem_iff_getElem?.1 hx
    exact ⟨cell_heap (hW.left.drop.drop.drop.drop.it_heap hj) (by simpa using flC_due x), cell_heap hW.left.drop.heap rfl⟩
  have hfl : (R.filter fun x => !decide (now < x.due)).length ≤ 19 := by rw [← isrt_length]; exact hd
  have HIT := Lib.hid hit
  have HG := Lib.hid hg
  have HN := Lib.hid hn
  have HF := Lib.hid hfl
  clear hT hX h hg hl1 hit hn hfl hd
  go_enter Tryz.func13, Tryz.ntmps13
  go_wp2_with fail
  try rw [hbn]
  refine c1.mono ?_
  rintro e w1 ⟨v1, rfl, hS1⟩
  have c2 := deleteW_any (p := fun x : FIt => decide (now < x.due)) (l := R) (g := 39) (lb := #[.pointer (some ⟨bn, 0, none⟩)]) (v := v1) eg1 hRl (fun x W G hx hS => (exLate_any (HIT.out x hx W G hS).1 (HIT.out x hx W G hS).2).mono fun e w' ⟨he, hs⟩ => ⟨he, hs ▸ hS.drew⟩) hS1
  clear c1 hS1 d1
  go_wp2_with fail
  refine c2.mono ?_
  rintro e w2 ⟨v2, rfl, hS2⟩
  have c3 := sortW_any (l := R.filter fun x => !decide (now < x.due)) (g := 41) (v := v2) eg2 HF.out (fun x y W G hx hy hS => (exCmp_any (HIT.out x (List.mem_filter.1 hx).1 W G hS).1 (HIT.out y (List.mem_filter.1 hy).1 W G hS).1).mono fun e w' ⟨he, hs⟩ => ⟨he, hs ▸ hS.drew⟩) hS2
  clear c2 hS2
  go_wp2_with fail
  refine c3.mono ?_
  rintro e w3 ⟨rfl, hS3⟩
  clear c3
  rw [← isrt_length, show isrt (R.filter fun x => !decide (now < x.due)) = dueF now R from rfl] at hS3
  have hdl : (dueF now R).length ≤ 19 := by unfold dueF; rw [isrt_length]; exact HF.out
  have hdm : ∀ x ∈ dueF now R, x ∈ R := fun x hx => (dueF_mem.1 hx).1
  have hdk := dueF_KN (now := now) HN.out
  have HDD := Lib.hid (dropAll_due (now := now) HN.out)
  obtain ⟨D, hD⟩ : ∃ D, D = dueF now R := ⟨_, rfl⟩
  rw [← hD] at hS3 hdl hdk HDD hdm
  have HDE := Lib.hid hD
  clear hD
  obtain ⟨A2, c2, rfl⟩ := hS3.arr_form
  have h4 := hS3.to (by ac_rfl : _ = blk bn (.cells #[.int .u64 now] 30) • blk t (.cells #[.slice A R.length c, .pointer (some ⟨q, 0, none⟩), .int .i64 next] 66) • arr 69 1 (.slice A R.length c) R.length (R.flatMap ptrC) • queue q room (ents R) • (arr 69 1 (.slice A2 D.length c2) D.length (D.flatMap ptrC) • its R F))
  have h5 := h4.drop
  rw [← its_star] at h5
  have h6 := arr_nil (e := 37) (sz := 37) ((Sat.fl_shut (v := .slice A R.length c) (q := q) HG.out h5).pull2)
  have h7 : Sat B w0 w3 (arr 37 37 (.slice none 0 0) 0 [] • arr 69 1 (.slice A2 D.length c2) D.length (D.flatMap ptrC) • fltab t room (dropAll R []) next • F) := by rw [dropAll_nil]; exact h6
  have HDM := Lib.hid hdm
  have HDK := Lib.hid hdk
  clear h4 h5 h6 hS3 hdm hdk
  go_wp2_with fail
  go_loopw [6, 8, 22] (fun v _ s wr => ∃ i : Nat, i ≤ D.length ∧ s = .int .i64 i ∧ Sat B w0 wr (arr 37 37 v i ((tupsF (D.take i)).flatMap Tup.enc) • arr 69 1 (.slice A2 D.length c2) D.length (D.flatMap ptrC) • fltab t room (dropAll R (D.take i)) next • F)) (fun _ _ s _ => D.length - (intOf s).toNat)
  case atStart => exact ⟨0, Nat.zero_le _, rfl, h7⟩
  case round =>
    clear h7
    obtain ⟨i, hi, rfl, hS⟩ := hrel
    obtain ⟨A3, c3, hv3⟩ := hS.arr_form
    subst hv3
    by_cases hlt : i < D.length
    · obtain ⟨x, hxi⟩ : ∃ x, D[i]? = some x := ⟨_, List.getElem?_eq_getElem hlt⟩
      obtain ⟨g, rfl, _, hc⟩ := hS.pull2.arr_at ptrC_length rfl hxi
      have hltz : (i : Int) < D.length := by omega
      have dp := hc 0 (.pointer (some ⟨x.key.p, 0, none⟩)) rfl
      rw [Nat.mul_one, Nat.add_zero] at dp
      obtain ⟨k, hk⟩ := dropAll_at HDK.out HDM.out hxi
      have cd := flDropK_any hS.pull3 (dropAll_KN HN.out) hk
      rw [dropAll_step hxi] at cd
      have HXI := Lib.hid hxi
      clear hc hxi hk hS
      go_wp2_with fail
      refine cd.mono ?_
      rintro e w4 ⟨rfl, hS4⟩
      clear cd
      have hl := tup_load0 hS4.drop.heap
      have hY := (hS4.to (by ac_rfl : _ = itb x • arr 37 37 (.slice A3 i c3) i ((tupsF (D.take i)).flatMap Tup.enc) • arr 69 1 (.slice (some ⟨g, 0, none⟩) D.length c2) D.length (D.flatMap ptrC) • fltab t room (dropAll R (D.take (i + 1))) next • F)).drop.alloc_ (.cells x.key.tup.enc.toArray 37)
      obtain ⟨v5, w5, hrun, hS5⟩ := hY.append (m := 1) (news := x.key.tup.enc) (t := 43) (ty := 43) (P := Tryz.prog) (x := .slice (some ⟨w4.heap.size, 0, none⟩) 1 1) Tryz.underlying43 tup_info (by simp [Value.cells, Tup.enc_length]) (by decide) reads_new (by rw [Tup.enc_length]) x.key.tup.enc_one (by unfold maxLen; omega) (by omega)
      have htk : (tupsF (D.take i)).flatMap Tup.enc ++ x.key.tup.enc = (tupsF (D.take (i + 1))).flatMap Tup.enc := by
        unfold tupsF
        rw [List.take_add_one, HXI.out, Option.toList_some, List.map_append, List.flatMap_append]
        simp
      rw [htk] at hS5
      obtain ⟨A5, c5, rfl⟩ := hS5.arr_form
      have HFL : Hid ((Value.agg x.key.tup.enc.toArray).cells.size = 37) := Lib.hid (by simp [Value.cells, Tup.enc_length])
      have HTI := Lib.hid tup_info2
      clear hS4 hY htk
      generalize x.key.tup.enc.toArray = Y at *
      generalize x.key.p = xp at *
      go_wp2_with (refine wpList_load_run (t := 37) rfl rfl rfl hl (stop_ ?_))
      unfold Stop
      go_simp
      refine wpList_buildSlice_one (v := .agg Y) rfl rfl rfl Tryz.underlying43 HTI.out HFL.out (by decide) (by decide) ?_
      go_simp
      refine wpList_append_run rfl _ _ _ rfl rfl rfl hrun ?_
      go_wp2_with fail
      go_roundw
      case rel => exact ⟨i + 1, by omega, by go_num, hS5⟩
      case measure => simp [intOf]; omega
    · obtain rfl : i = D.length := by omega
      have hltz : ¬ (D.length : Int) < D.length := by omega
      rw [List.take_length, HDD.out] at hS
      have HS := Lib.hid (hS.to (by ac_rfl : _ = arr 69 1 (.slice A2 D.length c2) D.length (D.flatMap ptrC) • arr 37 37 (.slice A3 D.length c3) D.length ((tupsF D).flatMap Tup.enc) • fltab t room (R.filter fun x => decide (now < x.due)) next • F)).drop
      clear hS
      go_wp2_with fail
      go_ret
      rw [← HDE.out]
      exact ⟨_, rfl, HS.out⟩
end
end Go.Proofs.YtepaanpdjadakaaGreatDoor
