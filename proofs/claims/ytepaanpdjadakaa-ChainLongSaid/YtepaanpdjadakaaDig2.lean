import Derived.Test.YtepaanpdjadakaaLongP
import Derived.Test.YtepaanpdjadakaaFork
import Derived.Test.YtepaanpdjadakaaSeq
import Derived.Laws.IdiomStrings
import Derived.Lib.Hide
import Derived.Deep.QuietTactic
import Derived.BigQuiet
/-! Digits of a number below twenty. -/
namespace Go.Proofs.Ytepaanpdjadakaa
open Go Go.RowKit

section
variable {P : Program} {w w' : World}
theorem dg_cell {g o : Nat} {cur : Array Value} {t : TypeId} {fr : Nat × Nat} {v : Value} (h : w.heap[g]? = some (.cells cur t fr)) (hv : cur[o]? = some v) : w.cell? ⟨g, o, none⟩ = some v := by
  unfold World.cell?; simp [h, hv]
theorem wpList_conv_run {ops : Array Oper} {rest : List Oper} {o : Oper} {a : Act} {Q : Exit → Act → World → Prop} (hgd : o.guard = none) {s d : TypeId} {x : Operand} (ho : o.op = .convert s d x) {v u : Value} (hx : a.eval x = v)
    (hr : (convert s d v).run P w = .ok u w') (h : wpList P ops Q rest (a.put o.dst u) w') : wpList P ops Q (o :: rest) a w := by
  refine wpList_plain hgd fun K hK => ?_
  unfold Oper.wp execOp
  simp only [ho, hx, Sem.run_bind, hr, Result.andThen_ok, Sem.run_pure, Oper.upon]
  exact hK _ _ h
theorem wp_conv_run {o : Oper} {a : Act} {K : Act → World → Prop} {Q : Exit → Act → World → Prop} {s d : TypeId} {x : Operand} (ho : o.op = .convert s d x) {v u : Value} (hx : a.eval x = v)
    (hr : (convert s d v).run P w = .ok u w') (h : K (a.put o.dst u) w') : o.wp P a w K Q := by
  unfold Oper.wp execOp
  simp only [ho, hx, Sem.run_bind, hr, Result.andThen_ok, Sem.run_pure, Oper.upon]
  exact h
end
theorem dg_conv (v : Nat) (h : v < 10) {W : World} {g : Nat} (hh : W.heap[g]? = some (.cells #[.int .u8 (48 + (v : Int))] 5)) : (convert 52 9 (.slice (some ⟨g, 0, none⟩) 1 1)).run Try.prog W = .ok (.string ⟨#[UInt8.ofNat (48 + v)]⟩) W := by
  exact run_convert_bytes_back (P := Try.prog) W 52 9 5 ⟨g, 0, none⟩ 1 [UInt8.ofNat (48 + v)] Try.underlying52 Try.underlying5 Try.underlying9 (fun j hj => by
    have hj0 : j = 0 := by simpa using hj
    subst hj0
    have h2 : ((UInt8.ofNat (48 + v)).toNat : Int) = 48 + (v : Int) := by
      rw [UInt8.toNat_ofNat', Nat.mod_eq_of_lt (by omega)]; omega
    rw [show ([UInt8.ofNat (48 + v)])[0] = UInt8.ofNat (48 + v) from rfl, h2, Addr.add_lit]
    exact dg_cell hh rfl)
theorem dgB_lt {v : Nat} (h : v < 10) : dgB v = ⟨#[UInt8.ofNat (48 + v)]⟩ := by unfold dgB; rw [if_pos h]
set_option maxRecDepth 8000 in
set_option maxHeartbeats 1000000 in
theorem digits1_any (v : Nat) (h : v < 10) (w : World) : Calls Try.prog 22 #[.int .i64 v] w fun e w' => e = .returned (.string (dgB v)) ∧ Below w.heap.size w w' := by
  have hlt : (v : Int) < 10 := by omega
  have hw1 : IntKind.u8.wrap (48 + (v : Int)) = 48 + (v : Int) := by simp [IntKind.wrap, IntKind.bits, IntKind.signed]; omega
  have hw2 : IntKind.u8.wrap (IntKind.i64.wrap (48 + (v : Int))) = 48 + (v : Int) := by rw [IntWalk.i64_in _ (by omega)]; exact hw1
  have hS := (Sat.start w).alloc (.cells #[.int .u8 (48 + (v : Int))] 5)
  have hB := hS.below
  have hcv := dg_conv v h hS.heap
  rw [← dgB_lt h] at hcv
  go_enter Try.func22, Try.ntmps22
  go_wp2_with (refine wpList_conv_run rfl rfl rfl hcv ?_)
  go_ret
  exact ⟨rfl, hB⟩
attribute [local irreducible] wpOrd wpTree
set_option maxRecDepth 8000 in
set_option maxHeartbeats 2000000 in
theorem digits2_any (v : Nat) (h : v < 10) (w : World) : Calls Try.prog 22 #[.int .i64 ((v + 10 : Nat) : Int)] w fun e w' => e = .returned (.string (dgB (v + 10))) ∧ Below w.heap.size w w' := by
  have hnl : ¬ ((v + 10 : Nat) : Int) < 10 := by omega
  have hq : ((v + 10 : Nat) : Int).tdiv 10 = ((1 : Nat) : Int) := by rw [Int.tdiv_eq_ediv_of_nonneg (by omega)]; omega
  have hr : ((v + 10 : Nat) : Int).tmod 10 = (v : Int) := by rw [Int.tmod_eq_emod_of_nonneg (by omega)]; omega
  have hw1 : IntKind.u8.wrap (48 + (v : Int)) = 48 + (v : Int) := by simp [IntKind.wrap, IntKind.bits, IntKind.signed]; omega
  have hw2 : IntKind.u8.wrap (IntKind.i64.wrap (48 + (v : Int))) = 48 + (v : Int) := by rw [IntWalk.i64_in _ (by omega)]; exact hw1
  have hs : dgB 1 ++ ⟨#[UInt8.ofNat (48 + v)]⟩ = dgB (v + 10) := by
    unfold dgB
    rw [if_pos (by decide), if_neg (by omega), Nat.add_sub_cancel]
    rfl
  have hc1 := fun W : World => digits1_any 1 (by decide) W
  simp only [show dgB 1 = ⟨#[49]⟩ from rfl] at hc1 hs
  generalize ((v + 10 : Nat) : Int) = V at *
  go_enter Try.func22, Try.ntmps22
  go_wp2_with fail
  try go_frame
  refine wp_region_tree (.two [(0, .pure), (1, .pure), (3, .pure), (4, .pure), (5, .pure), (6, .pure)] 2 (.leaf [(7, .acts), (8, .acts), (9, .pure), (10, .pure)]) 7 (.two [] 2 (.leaf [(8, .acts), (9, .pure), (10, .pure)]) 8 (.leaf [(2, .acts), (9, .pure), (10, .pure)]))) [] (by kernel_rfl) (by kernel_rfl) (fun _ => True) trivial ?_
  have hd0 : Below w.heap.size w w.drew := (Sat.start w).drew.below
  generalize w.drew = W0 at *
  refine tree_two ?_
  iterate 6 (refine ord_pure rfl rfl rfl (fun K' hK => ?_); go_big_quiet_op; refine hK _ ?_; clear hK K')
  try rw [hq]
  try rw [hr]
  try rw [hw2]
  refine ord_nil ?_
  have hz2 : (Try.prog.info? 5).map (fun i => (i.zero, i.size)) = some (some (.int .u8 0), 1) := by kernel_rfl
  have hal : ∀ W : World, (W.alloc (.cells #[.int .u8 (48 + (v : Int))] 5)).heap[W.heap.size]? = some (.cells #[.int .u8 (48 + (v : Int))] 5) := fun W => heap_alloc_new _ _
  have hba : ∀ W : World, Below W.heap.size W (W.alloc (.cells #[.int .u8 (48 + (v : Int))] 5)) := fun W => (Below.refl _ _).alloc (Nat.le_refl _) _
  refine ⟨?_, ?_⟩
  · refine fork_act rfl rfl (fun K' hK => ?_)
    go_simp
    refine (hc1 _).mono ?_
    rintro e w1 ⟨rfl, hb1⟩
    refine hK _ _ trivial ?_
    clear hK K'
    go_simp
    have hcv := dg_conv v h (hal w1)
    have hbe := hb1.trans ((hba w1).mono hb1.size)
    refine tree_leaf ?_
    refine ord_acts rfl rfl (fun K' hK => wp_buildSlice_one (v := .int .u8 (48 + (v : Int))) (sz := 1) rfl rfl Try.underlying52 hz2 rfl (by decide) (by decide) (hK _ _ trivial ?_))
    clear hK K'
    go_simp
    refine ord_acts rfl rfl (fun K' hK => wp_conv_run rfl rfl hcv (hK _ _ trivial ?_))
    clear hK K'
    go_simp
    iterate 2 (refine ord_pure rfl rfl rfl (fun K' hK => ?_); go_big_quiet_op; refine hK _ ?_; clear hK K')
    refine ord_nil ?_
    go_wp2_with fail
    go_ret
    exact ⟨by rw [← hs, UInt8.ofNat_add]; rfl, hd0.trans (Below.mono (by first | exact hbe | (rw [hg]; exact hbe)) hd0.size)⟩
  · refine fork_act rfl rfl (fun K' hK => wp_buildSlice_one (v := .int .u8 (48 + (v : Int))) (sz := 1) rfl rfl Try.underlying52 hz2 rfl (by decide) (by decide) (hK _ _ trivial ?_))
    clear hK K'
    go_simp
    have hW1 := hal W0
    have hB1 := hba W0
    generalize hg : W0.heap.size = g at *
    generalize W0.alloc (.cells #[.int .u8 (48 + (v : Int))] 5) = W1 at *
    have hcv := dg_conv v h hW1
    refine tree_two0 ?_ ?_
    · refine fork_act rfl rfl (fun K' hK => ?_)
      go_simp
      refine (hc1 _).mono ?_
      rintro e w2 ⟨rfl, hb2⟩
      refine hK _ _ trivial ?_
      clear hK K'
      go_simp
      have hcv2 := dg_conv v h ((hb2.block _ (Array.getElem?_eq_some_iff.1 hW1).1).trans hW1)
      have hbe := hB1.trans (hb2.mono (by rw [← hg]; exact hB1.size))
      refine tree_leaf ?_
      refine ord_acts rfl rfl (fun K' hK => wp_conv_run rfl rfl hcv2 (hK _ _ trivial ?_))
      clear hK K'
      go_simp
      iterate 2 (refine ord_pure rfl rfl rfl (fun K' hK => ?_); go_big_quiet_op; refine hK _ ?_; clear hK K')
      refine ord_nil ?_
      go_wp2_with fail
      go_ret
      exact ⟨by rw [← hs, UInt8.ofNat_add]; rfl, hd0.trans (Below.mono (by first | exact hbe | (rw [hg]; exact hbe)) hd0.size)⟩
    · refine fork_act rfl rfl (fun K' hK => wp_conv_run rfl rfl hcv (hK _ _ trivial ?_))
      clear hK K'
      go_simp
      refine tree_leaf ?_
      refine ord_acts rfl rfl (fun K' hK => ?_)
      go_simp
      refine (hc1 _).mono ?_
      rintro e w2 ⟨rfl, hb2⟩
      refine hK _ _ trivial ?_
      clear hK K'
      go_simp
      have hbe := hB1.trans (hb2.mono (by rw [← hg]; exact hB1.size))
      iterate 2 (refine ord_pure rfl rfl rfl (fun K' hK => ?_); go_big_quiet_op; refine hK _ ?_; clear hK K')
      refine ord_nil ?_
      go_wp2_with fail
      go_ret
      exact ⟨by rw [← hs, UInt8.ofNat_add]; rfl, hd0.trans (Below.mono (by first | exact hbe | (rw [hg]; exact hbe)) hd0.size)⟩
theorem digits20_any (v : Nat) (h : v < 20) (w : World) : Calls Try.prog 22 #[.int .i64 v] w fun e w' => e = .returned (.string (dgB v)) ∧ Below w.heap.size w w' := by
  by_cases h1 : v < 10
  · exact digits1_any v h1 w
  · obtain ⟨u, rfl⟩ : ∃ u, v = u + 10 := ⟨v - 10, by omega⟩
    exact digits2_any u (by omega) w
end Go.Proofs.Ytepaanpdjadakaa
