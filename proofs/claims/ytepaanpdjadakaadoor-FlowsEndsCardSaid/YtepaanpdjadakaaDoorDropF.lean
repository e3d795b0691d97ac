import Derived.Test.YtepaanpdjadakaaDoorDelF
import Derived.Test.YtepaanpdjadakaaDoorFail
/-! drop of a table. -/
namespace Go.Proofs.YtepaanpdjadakaaDoor
open Go Go.RowKit

section
variable {B : Nat} {w0 w w' : World} {F X : HP} {α : Type} {ek : α → List Value} {p : Itm α → Bool} {R : List (Itm α)} {g : Nat} {lb : Array Value} {bi bt t q room : Nat} {next : Int} {v : Value}
def DropAF (bi bt t q room : Nat) (g : Nat) (lb : Array Value) (v : Value) (next : Int) (X : HP) (R : List (Itm α)) (p : Itm α → Bool) (k : Nat) : HP :=
  blk bi (.cells #[.func (.func g) #[] lb] 185) • blk bt (.cells #[.pointer (some ⟨t, 0, none⟩)] 94) • blk t (.cells #[v, .pointer (some ⟨q, 0, none⟩), .int .i64 next] 178) • queue q room (ents (part_ R p k)) • X
/-- What is asked of a predicate. -/
def IsPF (B : Nat) (w0 : World) (ek : α → List Value) (p : Itm α → Bool) (R : List (Itm α)) (g : Nat) (lb : Array Value) (t room : Nat) (next : Int) (X : HP) : Prop :=
  ∀ (v : Value) (q k : Nat) (x : Itm α) (W : World) (G : HP), R[k]? = some x → Good R next → Sat B w0 W (blk t (.cells #[v, .pointer (some ⟨q, 0, none⟩), .int .i64 next] 178) • queue q room (ents (part_ R p k)) • X • G) →
    Calls Tryd.prog g (#[.agg (itmC ek x).toArray] ++ lb) W fun e w' => e = .returned (.bool (p x)) ∧ Below W.heap.size W w'
attribute [local irreducible] wpOrd
set_option maxRecDepth 8000 in
set_option maxHeartbeats 4000000 in
theorem drop1F_any (hsz : ∀ x, (ek x).length = 18) (eg : ∀ args w, (callFunc g args).run Tryd.prog w = .ok (.enter g args) w) (hg : Good R next)
    (his : IsPF B w0 ek p R g lb t room next X) {k : Nat} {x : Itm α} (hx : R[k]? = some x) (h : Sat B w0 w (DropAF bi bt t q room g lb v next X R p k • F)) :
    Calls Tryd.prog 146 #[.agg (itmC ek x).toArray, .pointer (some ⟨bi, 0, none⟩), .pointer (some ⟨bt, 0, none⟩)] w fun e w' => e = .returned (.bool (p x)) ∧ Sat B w0 w' (DropAF bi bt t q room g lb v next X R p (k + 1) • F) := by
  unfold DropAF at h ⊢
  rw [star_assoc, star_assoc, star_assoc, star_assoc] at h
  have hX := h.alloc (.cells (itmC ek x).toArray 180)
  have d1 : (w.alloc (.cells (itmC ek x).toArray 180)).cell? ⟨bi, 0, none⟩ = some (.func (.func g) #[] lb) := cell_heap hX.pull2.heap rfl
  have hl1 : (Instr.loadAt 180 (.pointer (some ⟨w.heap.size, 0, none⟩))).run Tryd.prog (w.alloc (.cells (itmC ek x).toArray 180)) = .ok (.agg (itmC ek x).toArray) (w.alloc (.cells (itmC ek x).toArray 180)) :=
    run_loadAt_row hX.heap Tryd.underlying180 rfl (by rw [itmC_length hsz]; kernel_rfl) (fun j u hu => by simpa using hu)
  have hcall := his v q k x _ (blk w.heap.size (.cells (itmC ek x).toArray 180) • blk bi (.cells #[.func (.func g) #[] lb] 185) • blk bt (.cells #[.pointer (some ⟨t, 0, none⟩)] 94) • F) hx hg (hX.to (by ac_rfl))
  have hid : (itmC ek x).toArray[18]? = some (.int .i64 x.id) := by simpa using itmC_id hsz x
  have hS1 := hX.to (by ac_rfl : _ = blk w.heap.size (.cells (itmC ek x).toArray 180) • blk bt (.cells #[.pointer (some ⟨t, 0, none⟩)] 94) • blk t (.cells #[v, .pointer (some ⟨q, 0, none⟩), .int .i64 next] 178) • queue q room (ents (part_ R p k)) • blk bi (.cells #[.func (.func g) #[] lb] 185) • X • F)
  have HID := Lib.hid hid
  clear hX h hsz his hid
  cases hp : p x with
  | true =>
    rw [hp] at hcall
    have hpy := part_yes hg hx hp
    have HPY := Lib.hid hpy
    clear hpy hp hx hg
    generalize (itmC ek x).toArray = Y at *
    go_enter Tryd.func146, Tryd.ntmps146
    go_wp2_with (first | (refine wpList_load_run (t := 180) rfl rfl rfl hl1 ?_) | (go_at_fn g; refine hcall.mono ?_; rintro e w2 ⟨rfl, hb2⟩))
    have hS2 := (hS1.below_ hb2).drew
    clear hcall hS1 hl1 d1
    try go_frame
    refine wp_region_ord [(0, .quiet), (1, .pure), (2, .pure), (3, .quiet), (4, .pure), (5, .quiet), (6, .seals)] (by kernel_rfl) (by kernel_rfl)
      (fun w' => w'.cell? ⟨bt, 0, none⟩ = some (.pointer (some ⟨t, 0, none⟩)) ∧ w'.cell? ⟨t, 1, none⟩ = some (.pointer (some ⟨q, 0, none⟩)) ∧ w'.cell? ⟨w.heap.size, 18, none⟩ = some (.int .i64 x.id)) ⟨cell_heap hS2.pull2.heap rfl, cell_heap hS2.pull3.heap rfl, cell_heap hS2.heap HID.out⟩ ?_
    refine ord_load (t := 94) rfl rfl rfl (p := .pointer (some ⟨bt, 0, none⟩)) (v := .pointer (some ⟨t, 0, none⟩)) rfl (fun w' hC => load_one Tryd.underlying94 rfl hC.1) (fun K' hK => ?_)
    go_simp
    refine hK _ ?_
    clear hK K'
    iterate 2 (refine ord_pure rfl rfl rfl (fun K' hK => ?_); go_big_quiet_op; refine hK _ ?_; clear hK K')
    refine ord_load (t := 25) rfl rfl rfl (p := .pointer (some ⟨t, 1, none⟩)) (v := .pointer (some ⟨q, 0, none⟩)) rfl (fun w' hC => load_one Tryd.underlying25 rfl hC.2.1) (fun K' hK => ?_)
    go_simp
    refine hK _ ?_
    clear hK K'
    iterate 1 (refine ord_pure rfl rfl rfl (fun K' hK => ?_); go_big_quiet_op; refine hK _ ?_; clear hK K')
    refine ord_load (t := 3) rfl rfl rfl (p := .pointer (some ⟨w.heap.size, 18, none⟩)) (v := .int .i64 x.id) rfl (fun w' hC => load_one Tryd.underlying3 rfl hC.2.2) (fun K' hK => ?_)
    go_simp
    refine hK _ ?_
    clear hK K'
    refine ord_seals rfl rfl (fun K' hK => ?_)
    go_simp
    refine (qCancel_any hS2.pull4 x.id).mono ?_
    rintro e w3 ⟨rfl, hS3⟩
    refine hK (fun _ => True) _ _ trivial ?_
    clear hK K'
    go_simp
    refine ord_nil ?_
    go_wp2_with fail
    go_ret
    refine ⟨rfl, ?_⟩
    rw [HPY.out] at hS3
    rw [star_assoc, star_assoc, star_assoc, star_assoc]
    exact (hS3.to (by ac_rfl : _ = blk w.heap.size (.cells Y 180) • blk bi (.cells #[.func (.func g) #[] lb] 185) • blk bt (.cells #[.pointer (some ⟨t, 0, none⟩)] 94) • blk t (.cells #[v, .pointer (some ⟨q, 0, none⟩), .int .i64 next] 178) • queue q room (ents (part_ R p (k + 1))) • X • F)).drop
  | false =>
    rw [hp] at hcall
    rw [part_no hx hp]
    clear hp hx hg
    generalize (itmC ek x).toArray = Y at *
    go_enter Tryd.func146, Tryd.ntmps146
    go_wp2_with (first | (refine wpList_load_run (t := 180) rfl rfl rfl hl1 ?_) | (go_at_fn g; refine hcall.mono ?_; rintro e w2 ⟨rfl, hb2⟩))
    go_ret
    refine ⟨rfl, ?_⟩
    have hS2 := hS1.below_ hb2
    rw [star_assoc, star_assoc, star_assoc, star_assoc]
    exact (hS2.to (by ac_rfl : _ = blk w.heap.size (.cells Y 180) • blk bi (.cells #[.func (.func g) #[] lb] 185) • blk bt (.cells #[.pointer (some ⟨t, 0, none⟩)] 94) • blk t (.cells #[v, .pointer (some ⟨q, 0, none⟩), .int .i64 next] 178) • queue q room (ents (part_ R p k)) • X • F)).drop
theorem dropNilF (g : Nat) (lb : Array Value) (w : World) : Calls Tryd.prog 111 #[.pointer none, .func (.func g) #[] lb] w fun e w' => e = .returned (.int .i64 0) ∧ Below w.heap.size w w' := by
  have hS := ((Sat.start w).alloc (.cells #[.pointer none] 94)).alloc (.cells #[.func (.func g) #[] lb] 185)
  have hB := hS.below
  clear hS
  go_enter Tryd.func111, Tryd.ntmps111
  go_wp2_with fail
  go_ret
  exact ⟨rfl, hB⟩
set_option maxRecDepth 8000 in
set_option maxHeartbeats 4000000 in
theorem dropF_any (hsz : ∀ x, (ek x).length = 18) (h1 : ∀ x, ∀ u ∈ ek x, u.oneCell' = true) (eg : ∀ args w, (callFunc g args).run Tryd.prog w = .ok (.enter g args) w)
    (his : IsPF B w0 ek p R g lb t room next X) (h : Sat B w0 w (tab ek 180 178 18 t room R next • X • F)) :
    Calls Tryd.prog 111 #[.pointer (some ⟨t, 0, none⟩), .func (.func g) #[] lb] w fun e w' => e = .returned (.int .i64 ((R.length : Int) - (R.filter fun x => !p x).length)) ∧
      Sat B w0 w' (tab ek 180 178 18 t room (R.filter fun x => !p x) next • X • F) := by
  have egd : ∀ args w, (callFunc 146 args).run Tryd.prog w = .ok (.enter 146 args) w := enters_of Tryd.func146 (by kernel_rfl) rfl
  obtain ⟨A, c, q, hg, hl1, hl2, hT⟩ := h.tab_open
  have hX := (hT.alloc (.cells #[.pointer (some ⟨t, 0, none⟩)] 94)).alloc (.cells #[.func (.func g) #[] lb] 185)
  rw [World.size_alloc] at hX
  have hX2 := (hX.to (by ac_rfl : _ = arr 180 (18 + 1) (.slice A R.length c) R.length (R.flatMap (itmC ek)) • (blk (w.heap.size + 1) (.cells #[.func (.func g) #[] lb] 185) • blk w.heap.size (.cells #[.pointer (some ⟨t, 0, none⟩)] 94) • blk t (.cells #[.slice A R.length c, .pointer (some ⟨q, 0, none⟩), .int .i64 next] 178) • queue q room (ents R) • X) • F)).drew
  have hda : (blk (w.heap.size + 1) (.cells #[.func (.func g) #[] lb] 185) • blk w.heap.size (.cells #[.pointer (some ⟨t, 0, none⟩)] 94) • blk t (.cells #[.slice A R.length c, .pointer (some ⟨q, 0, none⟩), .int .i64 next] 178) • queue q room (ents R) • X) = DropAF (w.heap.size + 1) w.heap.size t q room g lb (.slice A R.length c) next X R p 0 := by
    unfold DropAF; rw [part_zero]
  rw [hda] at hX2
  have hflen : (R.filter fun x => !p x).length ≤ R.length := List.length_filter_le _ _
  have cd := deleteF_any (B := B) (w0 := w0) (enc := itmC ek) (p := p) (l := R) (g := 146) (lb := #[.pointer (some ⟨w.heap.size + 1, 0, none⟩), .pointer (some ⟨w.heap.size, 0, none⟩)]) (v := .slice A R.length c) (itmC_length hsz) (itmC_one h1) egd
    (fun k => DropAF (w.heap.size + 1) w.heap.size t q room g lb (.slice A R.length c) next X R p k • F) (by omega)
    (fun k x W G hx hS => (drop1F_any (F := F • G) (v := .slice A R.length c) (q := q) hsz eg hg his hx (hS.to (by rw [star_assoc]))).mono fun e w' ⟨he, hs⟩ => ⟨he, hs.to (by rw [star_assoc])⟩) hX2
  have hgf : Good (R.filter fun x => !p x) next := hg.sub List.filter_sublist
  have HG := Lib.hid hgf
  have d0 : ((w.alloc (.cells #[.pointer (some ⟨t, 0, none⟩)] 94)).alloc (.cells #[.func (.func g) #[] lb] 185)).cell? ⟨w.heap.size, 0, none⟩ = some (.pointer (some ⟨t, 0, none⟩)) := cell_heap hX.pull2.heap rfl
  have d1 : ((w.alloc (.cells #[.pointer (some ⟨t, 0, none⟩)] 94)).alloc (.cells #[.func (.func g) #[] lb] 185)).cell? ⟨t, 0, none⟩ = some (.slice A R.length c) := cell_heap hX.pull3.heap rfl
  obtain ⟨W, hW⟩ : ∃ W, W = (w.alloc (.cells #[.pointer (some ⟨t, 0, none⟩)] 94)).alloc (.cells #[.func (.func g) #[] lb] 185) := ⟨_, rfl⟩
  have HW := Lib.hid hW
  have hC0 : W.drew.cell? ⟨w.heap.size, 0, none⟩ = some (.pointer (some ⟨t, 0, none⟩)) ∧ W.drew.cell? ⟨t, 0, none⟩ = some (.slice A R.length c) := by rw [hW]; exact ⟨d0, d1⟩
  rw [← hW] at cd
  clear hW hgf hda hX hX2 hT h his hg h1 hsz egd
  go_enter Tryd.func111, Tryd.ntmps111
  go_wp2_with fail
  rw [← HW.out]
  clear HW d0 d1
  try go_frame
  refine wp_region_ord [(0, .quiet), (1, .quiet), (2, .pure), (3, .pure), (4, .quiet), (5, .acts), (6, .acts), (7, .pure), (8, .pure), (9, .seals)] (by kernel_rfl) (by kernel_rfl)
    (fun w' => w'.cell? ⟨w.heap.size, 0, none⟩ = some (.pointer (some ⟨t, 0, none⟩)) ∧ w'.cell? ⟨t, 0, none⟩ = some (.slice A R.length c)) hC0 ?_
  refine ord_load (t := 94) rfl rfl rfl (p := .pointer (some ⟨w.heap.size, 0, none⟩)) (v := .pointer (some ⟨t, 0, none⟩)) rfl (fun w' hC => load_one Tryd.underlying94 rfl hC.1) (fun K' hK => ?_)
  go_simp
  refine hK _ ?_
  clear hK K'
  refine ord_load (t := 94) rfl rfl rfl (p := .pointer (some ⟨w.heap.size, 0, none⟩)) (v := .pointer (some ⟨t, 0, none⟩)) rfl (fun w' hC => load_one Tryd.underlying94 rfl hC.1) (fun K' hK => ?_)
  go_simp
  refine hK _ ?_
  clear hK K'
  iterate 2 (refine ord_pure rfl rfl rfl (fun K' hK => ?_); go_big_quiet_op; refine hK _ ?_; clear hK K')
  refine ord_load (t := 176) rfl rfl rfl (p := .pointer (some ⟨t, 0, none⟩)) (v := .slice A R.length c) rfl (fun w' hC => load_one Tryd.underlying176 rfl hC.2) (fun K' hK => ?_)
  go_simp
  refine hK _ ?_
  clear hK K'
  refine ord_acts rfl rfl (fun K' hK => ?_)
  go_simp
  refine hK _ _ hC0 ?_
  clear hK K'
  go_simp
  refine ord_acts rfl rfl (fun K' hK => ?_)
  go_simp
  refine cd.mono ?_
  rintro e w2 ⟨v2, rfl, hD⟩
  obtain ⟨A2, c2, rfl⟩ := hD.arr_form
  have hD2 := hD
  unfold DropAF at hD2
  have hC1 : w2.cell? ⟨w.heap.size, 0, none⟩ = some (.pointer (some ⟨t, 0, none⟩)) ∧ w2.cell? ⟨t, 0, none⟩ = some (.slice A R.length c) := by
    have hE := hD2.to (by ac_rfl : _ = blk t (.cells #[.slice A R.length c, .pointer (some ⟨q, 0, none⟩), .int .i64 next] 178) • blk w.heap.size (.cells #[.pointer (some ⟨t, 0, none⟩)] 94) • blk (w.heap.size + 1) (.cells #[.func (.func g) #[] lb] 185) • arr 180 19 (.slice A2 (R.filter fun x => !p x).length c2) (R.filter fun x => !p x).length ((R.filter fun x => !p x).flatMap (itmC ek)) • queue q room (ents (part_ R p R.length)) • X • F)
    exact ⟨cell_heap hE.pull2.heap rfl, cell_heap hE.heap rfl⟩
  obtain ⟨w3, hr3, hA3⟩ := one_store (o := 0) (ty := 176) (u := .slice A2 (R.filter fun x => !p x).length c2) (hD2.to (by ac_rfl : _ = blk t (.cells #[.slice A R.length c, .pointer (some ⟨q, 0, none⟩), .int .i64 next] 178) • blk w.heap.size (.cells #[.pointer (some ⟨t, 0, none⟩)] 94) • blk (w.heap.size + 1) (.cells #[.func (.func g) #[] lb] 185) • arr 180 19 (.slice A2 (R.filter fun x => !p x).length c2) (R.filter fun x => !p x).length ((R.filter fun x => !p x).flatMap (itmC ek)) • queue q room (ents (part_ R p R.length)) • X • F)) (by kernel_rfl) (by simp) rfl rfl
  have d4 : w3.cell? ⟨w.heap.size, 0, none⟩ = some (.pointer (some ⟨t, 0, none⟩)) := cell_heap hA3.pull2.heap rfl
  have d5 : w3.cell? ⟨t, 0, none⟩ = some (.slice A2 (R.filter fun x => !p x).length c2) := cell_heap hA3.heap rfl
  have hfin : Sat B w0 w3 (tab ek 180 178 18 t room (R.filter fun x => !p x) next • X • F) := by
    rw [part_all] at hA3
    refine Sat.tab_shut (v := .slice A2 (R.filter fun x => !p x).length c2) (q := q) HG.out ?_
    exact (hA3.to (by ac_rfl : _ = blk w.heap.size (.cells #[.pointer (some ⟨t, 0, none⟩)] 94) • blk (w.heap.size + 1) (.cells #[.func (.func g) #[] lb] 185) • blk t (.cells (#[.slice A R.length c, .pointer (some ⟨q, 0, none⟩), .int .i64 next].setIfInBounds 0 (.slice A2 (R.filter fun x => !p x).length c2)) 178) • arr 180 19 (.slice A2 (R.filter fun x => !p x).length c2) (R.filter fun x => !p x).length ((R.filter fun x => !p x).flatMap (itmC ek)) • queue q room (ents (R.filter fun x => !p x)) • X • F)).drop.drop
  have HFIN := Lib.hid hfin
  clear hfin hA3 hD hD2
  generalize hfl : (R.filter fun x => !p x).length = fl at *
  have HFL := Lib.hid hfl
  clear hfl
  refine hK _ _ hC1 ?_
  clear hK K' cd
  go_simp
  iterate 2 (refine ord_pure rfl rfl rfl (fun K' hK => ?_); go_big_quiet_op; refine hK _ ?_; clear hK K')
  refine ord_store rfl rfl rfl rfl (p := .pointer (some ⟨t, 0, none⟩)) (v := .slice A2 fl c2) rfl rfl hr3 (fun _ => True) trivial ?_
  refine ord_nil ?_
  go_wp2_with fail
  go_ret
  rw [HFL.out]
  exact ⟨rfl, HFIN.out⟩
end
end Go.Proofs.YtepaanpdjadakaaDoor
