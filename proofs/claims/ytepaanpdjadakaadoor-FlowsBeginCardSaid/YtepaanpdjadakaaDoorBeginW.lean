import Derived.Test.YtepaanpdjadakaaDoorBeginW1
import Derived.Test.YtepaanpdjadakaaDoorBeginW2
import Derived.Test.YtepaanpdjadakaaDoorBeginW3
/-! FlowsBegin's walk. -/
namespace Go.Proofs.YtepaanpdjadakaaDoor
open Go Go.RowKit

theorem begin26_any (n0 fl now : Int) (w : World) (wn : (Lit.int .u64 now).wf = true) (hE : Et w) :
    Calls Tryd.prog 19 #[.int .i64 n0, .int .i64 fl, .int .u64 now] w fun e w' => e = .returned (.bool true) ∧ Below w.heap.size w w' := by
  have hn := wf_u64 wn
  cases h2 : (bits .and .i64 fl 2 != 0) with
  | false => exact begin26_2 n0 fl now w hn hE h2
  | true =>
    cases h21 : (bits .and .i64 fl 21 == 0) with
    | true => exact begin26_1 n0 fl now w hn hE h2 h21
    | false => exact begin26_3 n0 fl now w hn hE h2 h21
end Go.Proofs.YtepaanpdjadakaaDoor
