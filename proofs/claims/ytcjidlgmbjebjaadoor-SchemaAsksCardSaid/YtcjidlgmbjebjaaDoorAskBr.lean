/- The closed facts of SchemaAsks's row, one by one. -/
import Derived.Test.YtcjidlgmbjebjaaDoorRows
import Derived.JoinedOf
set_option linter.unusedVariables false
set_option linter.unusedSimpArgs false
namespace Go.Proofs.YtcjidlgmbjebjaaDoor.schemaAsks
open Go
set_option maxRecDepth 100000
theorem and2 {a b : Bool} (ha : a = true) (hb : b = true) : (a && b) = true := by rw [ha, hb]; rfl
set_option maxHeartbeats 4000000 in
theorem joined : joinedFacts Tryd.pinned.checked.prog 3 Tryd.f3 Rows.schemaAsksSpec Rows.schemaAsksRow = true := by
  unfold joinedFacts
  repeat' refine and2 ?_ ?_
  all_goals (as_aux_lemma => kernel_rfl)
end Go.Proofs.YtcjidlgmbjebjaaDoor.schemaAsks
