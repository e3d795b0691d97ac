import Derived.WalkKit
import Derived.IntWalk
/-! Sums that do not go round. -/
namespace Go.Proofs.YtepaanpdjadakaaGreatDoor
open Go Go.RowKit

def aft (now n : Int) : Int := if n > 18446744073709551615 - now then 18446744073709551615 else now + n
theorem aft_yes {now n : Int} (h : n > 18446744073709551615 - now) : aft now n = 18446744073709551615 := by unfold aft; rw [if_pos h]
theorem aft_no {now n : Int} (h : ¬ n > 18446744073709551615 - now) : aft now n = now + n := by unfold aft; rw [if_neg h]
theorem aft_bd {t n : Int} (h0 : 0 ≤ t) (h1 : t ≤ 18446744073709551615) (h2 : 0 ≤ n) : 0 ≤ aft t n ∧ aft t n ≤ 18446744073709551615 ∧ t ≤ aft t n := by
  unfold aft; split <;> omega
theorem wf_u64 {n : Int} (h : (Lit.int .u64 n).wf = true) : 0 ≤ n ∧ n ≤ 18446744073709551615 := by
  simp [Lit.wf, IntKind.signed, IntKind.bits, IntKind.min, IntKind.max] at h
  omega
end Go.Proofs.YtepaanpdjadakaaGreatDoor
