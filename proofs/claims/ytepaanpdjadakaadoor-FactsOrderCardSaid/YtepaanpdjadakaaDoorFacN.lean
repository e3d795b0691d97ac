import Derived.Test.YtepaanpdjadakaaDoorFacA
import Derived.Test.YtepaanpdjadakaaDoorFac2
/-! Facts: a nil table. -/
namespace Go.Proofs.YtepaanpdjadakaaDoor
open Go Go.RowKit

theorem fAll_nil (w : World) : Calls Tryd.prog 61 #[.pointer none] w fun e w' => e = .returned (.slice none 0 0) ∧ w = w' := by
  go_enter Tryd.func61, Tryd.ntmps61
  go_wp2_with fail
  go_ret
  exact ⟨rfl, rfl⟩
theorem fLen_nil (w : World) : Calls Tryd.prog 59 #[.pointer none] w fun e w' => e = .returned (.int .i64 0) ∧ w = w' := by
  go_enter Tryd.func59, Tryd.ntmps59
  go_wp2_with fail
  go_ret
  exact ⟨rfl, rfl⟩
theorem fExpire_nil (now : Int) (w : World) : Calls Tryd.prog 62 #[.pointer none, .int .u64 now] w fun e w' => e = .returned (.int .i64 0) ∧ Below w.heap.size w w' := by
  have hX := ((Sat.start w).alloc (.cells #[.pointer none] 94)).alloc_ (.cells #[.int .u64 now] 23)
  go_enter Tryd.func62, Tryd.ntmps62
  go_wp2_with fail
  refine (dropNilF _ _ _).mono ?_
  rintro e w1 ⟨rfl, hb⟩
  have hS2 := hX.below_ hb
  go_wp2_with fail
  go_ret
  exact ⟨rfl, hS2.below⟩
theorem fDrop_nil (name : ByteArray) (w : World) : Calls Tryd.prog 65 #[.pointer none, .string name] w fun e w' => e = .returned (.int .i64 0) ∧ Below w.heap.size w w' := by
  have hX := (Sat.start w).alloc_ (.cells #[.string name] 9)
  go_enter Tryd.func65, Tryd.ntmps65
  go_wp2_with fail
  refine (dropNilF _ _ _).mono ?_
  rintro e w1 ⟨rfl, hb⟩
  have hS2 := hX.below_ hb
  go_wp2_with fail
  go_ret
  exact ⟨rfl, hS2.below⟩
set_option maxRecDepth 8000 in
set_option maxHeartbeats 1000000 in
theorem fNames_nil (a : Adr) (w : World) : Calls Tryd.prog 63 #[.pointer none, .agg a.enc.toArray] w fun e w' => e = .returned (.slice none 0 0) ∧ Below w.heap.size w w' := by
  have hX := (Sat.start w).alloc_ (.cells a.enc.toArray 63)
  generalize a.enc.toArray = AE at *
  go_enter Tryd.func63, Tryd.ntmps63
  go_wp2_with fail
  refine (fAll_nil _).mono ?_
  rintro e w1 ⟨rfl, rfl⟩
  go_wp2_with fail
  go_loopw [5, 7, 11] (fun v _ s wr => v = .slice none 0 0 ∧ s = .int .i64 0 ∧ Sat w.heap.size w wr emp) (fun _ _ _ _ => 0)
  case atStart => exact ⟨rfl, rfl, hX⟩
  case round =>
    obtain ⟨rfl, rfl, hS⟩ := hrel
    go_wp2_with fail
    go_ret
    exact ⟨rfl, hS.below⟩
end Go.Proofs.YtepaanpdjadakaaDoor
