/- Parts of a run of the evaluator, printed by a program of this session (pieces.py). -/
import Derived.Test.YtfmbianmccppjaaGreatDoorIntH
set_option linter.unusedVariables false
set_option linter.unusedSimpArgs false
set_option maxRecDepth 1000000
namespace Go.Proofs.YtfmbianmccppjaaGreatDoor.Ev.Tryz
open Go Go.Proofs.YtfmbianmccppjaaGreatDoor.Ev Go.Proofs.Tryz
noncomputable def R5m1 : Mem := { f := 26, args := [(V.ptr 26 0)], H := R5Hp1, v := (V.tuple [(V.int .i64 2), (V.int .i64 0), (V.int .i64 0)]), H' := R5Hp2 }
theorem R5m1_ok : evalM [] E 100000 (.call R5m1.f R5m1.args false) R5m1.H = some (.call R5m1.v R5m1.H') := by kernel_rfl
end Go.Proofs.YtfmbianmccppjaaGreatDoor.Ev.Tryz
