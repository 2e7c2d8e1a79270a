/- Parts of a run of the evaluator, printed by a program of this session (pieces.py). -/
import Derived.Test.YtfmbianmccppjaaGreatDoorIntH
set_option linter.unusedVariables false
set_option linter.unusedSimpArgs false
set_option maxRecDepth 1000000
namespace Go.Proofs.YtfmbianmccppjaaGreatDoor.Ev.Tryz
open Go Go.Proofs.YtfmbianmccppjaaGreatDoor.Ev Go.Proofs.Tryz
noncomputable def R5m2 : Mem := { f := 22, args := [(V.ptr 26 0)], H := R5Hp3, v := (V.int .i64 0), H' := R5Hp4 }
theorem R5m2_ok : evalM [] E 100000 (.call R5m2.f R5m2.args false) R5m2.H = some (.call R5m2.v R5m2.H') := by kernel_rfl
end Go.Proofs.YtfmbianmccppjaaGreatDoor.Ev.Tryz
