/- Parts of a run of the evaluator, printed by a program of this session (pieces.py). -/
import Derived.Test.YtfmbianmccppjaaGreatDoorIntH
set_option linter.unusedVariables false
set_option linter.unusedSimpArgs false
set_option maxRecDepth 1000000
namespace Go.Proofs.YtfmbianmccppjaaGreatDoor.Ev.Tryz
open Go Go.Proofs.YtfmbianmccppjaaGreatDoor.Ev Go.Proofs.Tryz
noncomputable def R5m4 : Mem := { f := 83, args := [(V.ptr 585 0)], H := R5Hp5, v := (V.int .i64 0), H' := R5Hp6 }
theorem R5m4_ok : evalM [] E 100000 (.call R5m4.f R5m4.args false) R5m4.H = some (.call R5m4.v R5m4.H') := by kernel_rfl
end Go.Proofs.YtfmbianmccppjaaGreatDoor.Ev.Tryz
