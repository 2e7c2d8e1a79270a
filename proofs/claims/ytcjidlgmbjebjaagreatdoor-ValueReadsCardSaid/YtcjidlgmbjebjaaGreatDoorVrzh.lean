/- A part of the proof of ValueReads. -/
import Derived.Test.YtcjidlgmbjebjaaGreatDoorRows
import Derived.JoinedOf
set_option linter.unusedVariables false
set_option linter.unusedSimpArgs false
set_option maxRecDepth 100000
namespace Go.Proofs.YtcjidlgmbjebjaaGreatDoor.valueReads
open Go
theorem and2 {a b : Bool} (ha : a = true) (hb : b = true) : (a && b) = true := by rw [ha, hb]; rfl
set_option maxHeartbeats 4000000 in
theorem joined : joinedFacts Tryz.pinned.checked.prog 4 Tryz.f4 Rows.valueReadsSpec Rows.valueReadsRow = true := by
  unfold joinedFacts
  repeat' refine and2 ?_ ?_
  all_goals (as_aux_lemma => kernel_rfl)
end Go.Proofs.YtcjidlgmbjebjaaGreatDoor.valueReads
