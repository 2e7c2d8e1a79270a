/- Parts of a run of the evaluator, printed by a program of this session (pieces.py). -/
import Derived.Test.YtfmbianmccppjaaGreatDoorIntH
set_option linter.unusedVariables false
set_option linter.unusedSimpArgs false
set_option maxRecDepth 1000000
namespace Go.Proofs.YtfmbianmccppjaaGreatDoor.Ev.Tryz
open Go Go.Proofs.YtfmbianmccppjaaGreatDoor.Ev Go.Proofs.Tryz
noncomputable def R5m0 : Mem := { f := 85, args := [], H := R5Hp0, v := (V.ptr 26 0), H' := R5Hp1 }
theorem R5m0_ok : evalM [] E 100000 (.call R5m0.f R5m0.args false) R5m0.H = some (.call R5m0.v R5m0.H') := by kernel_rfl
end Go.Proofs.YtfmbianmccppjaaGreatDoor.Ev.Tryz
