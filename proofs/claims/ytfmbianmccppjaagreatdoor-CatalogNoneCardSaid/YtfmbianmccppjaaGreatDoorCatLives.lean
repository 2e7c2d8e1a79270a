import Derived.Test.YtfmbianmccppjaaGreatDoorCatB
set_option linter.unusedVariables false
set_option linter.unusedSimpArgs false
namespace Go.Proofs.YtfmbianmccppjaaGreatDoor.Ev.Tryz
open Go Go.Proofs.YtfmbianmccppjaaGreatDoor.Ev Go.Proofs.Tryz
set_option maxRecDepth 1000000
theorem runLives : outB (evalM [] (E fun _ => none) 100000 (.call 6 [] false) H0) = 1 := by kernel_rfl
end Go.Proofs.YtfmbianmccppjaaGreatDoor.Ev.Tryz
