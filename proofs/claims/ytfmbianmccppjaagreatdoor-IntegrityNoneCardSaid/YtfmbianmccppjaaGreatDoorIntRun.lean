import Derived.Test.YtfmbianmccppjaaGreatDoorIntMs
set_option linter.unusedVariables false
set_option linter.unusedSimpArgs false
namespace Go.Proofs.YtfmbianmccppjaaGreatDoor.Ev.Tryz
open Go Go.Proofs.YtfmbianmccppjaaGreatDoor.Ev Go.Proofs.Tryz
set_option maxRecDepth 1000000
theorem run (x : Int) : outB (evalM R5ms E 100000 (.call 4 [.int .i64 x] false) H0) = 1 := by kernel_rfl
end Go.Proofs.YtfmbianmccppjaaGreatDoor.Ev.Tryz
