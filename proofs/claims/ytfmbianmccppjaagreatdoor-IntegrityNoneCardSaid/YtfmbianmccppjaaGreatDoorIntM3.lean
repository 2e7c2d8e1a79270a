/- Parts of a run of the evaluator, printed by a program of this session (pieces.py). -/
import Derived.Test.YtfmbianmccppjaaGreatDoorIntH
set_option linter.unusedVariables false
set_option linter.unusedSimpArgs false
set_option maxRecDepth 1000000
namespace Go.Proofs.YtfmbianmccppjaaGreatDoor.Ev.Tryz
open Go Go.Proofs.YtfmbianmccppjaaGreatDoor.Ev Go.Proofs.Tryz
noncomputable def R5m3 : Mem := { f := 81, args := [(V.ptr 585 0)], H := R5Hp4, v := (V.int .i64 0), H' := R5Hp5 }
theorem R5m3_ok : evalM [] E 100000 (.call R5m3.f R5m3.args false) R5m3.H = some (.call R5m3.v R5m3.H') := by kernel_rfl
end Go.Proofs.YtfmbianmccppjaaGreatDoor.Ev.Tryz
