/- Parts of a run of the evaluator, printed by a program of this session (pieces.py). -/
import Derived.Test.YtfmbianmccppjaaGreatDoorIntM0
import Derived.Test.YtfmbianmccppjaaGreatDoorIntM1
import Derived.Test.YtfmbianmccppjaaGreatDoorIntM2
import Derived.Test.YtfmbianmccppjaaGreatDoorIntM3
import Derived.Test.YtfmbianmccppjaaGreatDoorIntM4
set_option linter.unusedVariables false
set_option linter.unusedSimpArgs false
set_option maxRecDepth 1000000
namespace Go.Proofs.YtfmbianmccppjaaGreatDoor.Ev.Tryz
open Go Go.Proofs.YtfmbianmccppjaaGreatDoor.Ev Go.Proofs.Tryz
noncomputable def R5ms : List Mem := [R5m0, R5m1, R5m2, R5m3, R5m4]
theorem R5ms_ok : MemOk E prog R5ms := MemOk.cons E_ok MemOk.nil (MemOk.cons E_ok MemOk.nil (MemOk.cons E_ok MemOk.nil (MemOk.cons E_ok MemOk.nil (MemOk.cons E_ok MemOk.nil (MemOk.nil) R5m4_ok) R5m3_ok) R5m2_ok) R5m1_ok) R5m0_ok
end Go.Proofs.YtfmbianmccppjaaGreatDoor.Ev.Tryz
