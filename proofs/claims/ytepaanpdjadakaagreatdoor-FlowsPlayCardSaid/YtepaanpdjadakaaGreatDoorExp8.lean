import Derived.Test.YtepaanpdjadakaaGreatDoorErrAs
import Derived.Test.YtepaanpdjadakaaGreatDoorBase
import Derived.WalkLawsBesides
import Derived.WalkSpells
/-! Errors by their numbers: fault.Code, and the help's Bare and Is. -/
namespace Go.Proofs.YtepaanpdjadakaaGreatDoor
open Go Go.RowKit

/-- An error by its number; 0: none. -/
def errV (n : Int) : Value := if n = 0 then .nilIface else .iface 50 (.int .i64 n)
theorem errV_zero : errV 0 = .nilIface := rfl
theorem errV_ne {n : Int} (h : n ≠ 0) : errV n = .iface 50 (.int .i64 n) := by unfold errV; rw [if_neg h]
theorem errV_one (n : Int) : (errV n).oneCell' = true := by unfold errV; split <;> rfl
/-- What the help says of an error without a place. -/
def failV (c : Int) : Value := .agg #[.int .i64 c, .int .i64 0, .bool false]
theorem errno_zero1 : (Tryz.prog.info? 50).map (·.zero) = some (some (.int .i64 0)) := by kernel_rfl

set_option maxRecDepth 8000 in
set_option maxHeartbeats 1000000 in
/-- errors.Is(e, c). -/
theorem eis_any (n c : Int) (hc : c ≠ 0) (w : World) : Calls Tryz.prog 45 #[errV n, .iface 50 (.int .i64 c)] w fun e w' => e = .returned (.bool (n == c)) ∧ w' = w := by
  by_cases h : n = 0
  · subst h
    rw [errV_zero]
    have : ((0 : Int) == c) = false := by simpa using Ne.symm hc
    rw [this]
    exact is_nil c w
  · rw [errV_ne h]
    exact is_errno n c w
set_option maxRecDepth 8000 in
set_option maxHeartbeats 1000000 in
theorem code_any (n : Int) (w : World) (hE : Et w) : Calls Tryz.prog 66 #[errV n] w fun e w' => e = .returned (.int .i64 n) ∧ Below w.heap.size w w' := by
  have hb1 : Below w.heap.size w (w.alloc (.cells #[.int .i64 0] 50)) := (Below.refl _ _).alloc (Nat.le_refl _) _
  by_cases h : n = 0
  · subst h
    rw [errV_zero]
    go_enter Tryz.func66, Tryz.ntmps66
    go_wp2_with fail
    refine (as_nil _ _).mono ?_
    rintro e w1 ⟨rfl, rfl⟩
    go_wp2_with fail
    go_ret
    exact ⟨rfl, hb1⟩
  · rw [errV_ne h]
    have hS := (Sat.start w).alloc (.cells #[.int .i64 0] 50)
    have hE1 := hE.below hb1
    have H := Lib.hid h
    clear h
    go_enter Tryz.func66, Tryz.ntmps66
    go_wp2_with fail
    refine (as_errno n hS hE1).mono ?_
    rintro e w1 ⟨rfl, hS1⟩
    have hl := run_loadAt_one (P := Tryz.prog) (o := 0) (ty := 50) (v := .int .i64 n) hS1.heap Tryz.underlying50 rfl rfl
    go_wp2_with (refine wpList_load_run (t := 50) rfl rfl rfl hl ?_)
    go_ret
    exact ⟨rfl, hS1.below⟩
set_option maxRecDepth 8000 in
set_option maxHeartbeats 1000000 in
theorem bare_any (c : Int) (w : World) : Calls Tryz.prog 47 #[.int .i64 c] w fun e w' => e = .returned (failV c) ∧ Below w.heap.size w w' := by
  have hst : ∀ (W : World) (z : Array Value), z.size = 3 → (Instr.storeAt 52 (.pointer (some ⟨W.heap.size, 0, none⟩)) (failV c)).run Tryz.prog (W.alloc (.cells z 52)) = .ok () (W.alloc (.cells #[.int .i64 c, .int .i64 0, .bool false] 52)) :=
    fun W z hz => run_storeAt_new (v := failV c) (by kernel_rfl) (by simp only [failV, Value.cells]; exact hz) (by simp [failV, Value.cells, Value.oneCell'])
  go_enter Tryz.func47, Tryz.ntmps47
  go_wp2_with (refine wpList_store_run (t := 52) rfl rfl rfl rfl (hst _ _ rfl) ?_)
  refine ret_cell rfl rfl (run_loadAt_row (cs := [.int .i64 c, .int .i64 0, .bool false]) (heap_alloc_new _ _) Tryz.underlying52 rfl (by kernel_rfl) (fun j u hu => by simpa using hu)) rfl ⟨rfl, (Below.refl _ _).alloc (Nat.le_refl _) _⟩
set_option maxRecDepth 8000 in
set_option maxHeartbeats 4000000 in
/-- same.Is(e, f), at errors without a place. -/
theorem same_any (n c : Int) (w : World) (hE : Et w) : Calls Tryz.prog 17 #[errV n, failV c] w fun e w' => e = .returned (.bool (n == c)) ∧ Below w.heap.size w w' := by
  unfold failV
  by_cases hc : c = 0
  · subst hc
    by_cases h : n = 0
    · subst h
      rw [errV_zero]
      go_enter Tryz.func17, Tryz.ntmps17
      go_wp2_with fail
      go_ret
      exact ⟨rfl, (Below.refl _ _).alloc (Nat.le_refl _) _⟩
    · rw [errV_ne h]
      have hn : (n == 0) = false := by simpa using h
      rw [hn]
      clear h hn
      go_enter Tryz.func17, Tryz.ntmps17
      go_wp2_with fail
      go_ret
      exact ⟨rfl, (Below.refl _ _).alloc (Nat.le_refl _) _⟩
  · have hc0 : (c == 0) = false := by simpa using hc
    have hS := (((Sat.start w).alloc (.cells #[.int .i64 c, .int .i64 0, .bool false] 52)).alloc (.cells #[.int .i64 0] 50)).alloc (.cells #[.pointer none] 91)
    have hE3 := hS.et hE.pos hE
    by_cases h : n = 0
    · subst h
      have hn : ((0 : Int) == c) = false := by simpa using Ne.symm hc
      rw [errV_zero, hn]
      clear hn hc
      go_enter Tryz.func17, Tryz.ntmps17
      go_wp2_with fail
      refine (as_nil _ _).mono ?_
      rintro e w1 ⟨rfl, rfl⟩
      go_wp2_with fail
      go_ret
      exact ⟨rfl, hS.below⟩
    · rw [errV_ne h]
      rw [World.size_alloc, World.size_alloc] at hS
      have c1 := as_errno n hS.pull2 hE3
      have HC := Lib.hid hc
      clear h hc
      go_enter Tryz.func17, Tryz.ntmps17
      go_wp2_with fail
      refine c1.mono ?_
      rintro e w1 ⟨rfl, hS1⟩
      have hE4 := hS1.et hE.pos hE
      have d1 : w1.cell? ⟨w.heap.size + 1, 0, none⟩ = some (.int .i64 n) := by simp [World.cell?, hS1.heap]
      have d2 : w1.cell? ⟨w.heap.size, 0, none⟩ = some (.int .i64 c) := by simp [World.cell?, hS1.pull3.heap]
      have d3 : w1.cell? ⟨w.heap.size, 2, none⟩ = some (.bool false) := by simp [World.cell?, hS1.pull3.heap]
      have d4 : w1.cell? ⟨w.heap.size + 1 + 1, 0, none⟩ = some (.pointer none) := by simp [World.cell?, hS1.pull2.heap]
      clear c1 hS hE3
      by_cases hq : n = c
      · have q1 : (n != c) = false := by simpa using hq
        have q2 : (n == c) = true := by simpa using hq
        have c2 := is_errno n c w1
        rw [q2] at c2
        have HQ := Lib.hid q2
        clear hq q2
        go_wp2_with fail
        refine c2.mono ?_
        rintro e w2 ⟨rfl, rfl⟩
        clear c2
        go_wp2_with fail
        refine (as_fault n _ _ _ hE4 d4).mono ?_
        rintro e w3 ⟨rfl, hb3⟩
        have hS3 := hS1.below_ hb3
        have d5 : w3.cell? ⟨w.heap.size, 2, none⟩ = some (.bool false) := by simp [World.cell?, hS3.pull3.heap]
        go_wp2_with fail
        go_ret
        rw [HQ.out]
        exact ⟨rfl, hS3.below⟩
      · have q1 : (n != c) = true := by simpa using hq
        have q2 : (n == c) = false := by simpa using hq
        have HQ := Lib.hid q2
        clear hq q2
        go_wp2_with fail
        go_ret
        rw [HQ.out]
        exact ⟨rfl, hS1.below⟩
end Go.Proofs.YtepaanpdjadakaaGreatDoor
