/- The example of ModelNone, run by the kernel. -/
import Derived.Test.YtecedjbhjdgnoaaGreatDoorMdB
set_option linter.unusedVariables false
set_option linter.unusedSimpArgs false
namespace Go.Proofs.YtecedjbhjdgnoaaGreatDoor.Ev.Tryz
open Go Go.Proofs.YtecedjbhjdgnoaaGreatDoor.Ev Go.Proofs.Tryz
set_option maxRecDepth 1000000
theorem runLives : outB (R_evalM [] (E fun _ => none) 1000000 (.call 5 [] false) H0) = 1 := by kernel_rfl
end Go.Proofs.YtecedjbhjdgnoaaGreatDoor.Ev.Tryz
