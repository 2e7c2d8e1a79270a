/- A part of the proof of ValueBack. -/
import Derived.Test.YtcjidlgmbjebjaaDoorRows
import Derived.JoinedOf
set_option linter.unusedVariables false
set_option linter.unusedSimpArgs false
set_option maxRecDepth 100000
namespace Go.Proofs.YtcjidlgmbjebjaaDoor.valueBack
open Go
theorem and2 {a b : Bool} (ha : a = true) (hb : b = true) : (a && b) = true := by rw [ha, hb]; rfl
set_option maxHeartbeats 4000000 in
theorem joined : joinedFacts Tryd.pinned.checked.prog 9 Tryd.f9 Rows.valueBackSpec Rows.valueBackRow = true := by
  unfold joinedFacts
  repeat' refine and2 ?_ ?_
  all_goals (as_aux_lemma => kernel_rfl)
end Go.Proofs.YtcjidlgmbjebjaaDoor.valueBack
