/- The rest of ModelNone, run by the kernel. -/
import Derived.Test.YtecedjbhjdgnoaaGreatDoorMdB
set_option linter.unusedVariables false
set_option linter.unusedSimpArgs false
namespace Go.Proofs.YtecedjbhjdgnoaaGreatDoor.Ev.Tryz
open Go Go.Proofs.YtecedjbhjdgnoaaGreatDoor.Ev Go.Proofs.Tryz
set_option maxRecDepth 1000000
theorem runRest (base : Nat → Option Pl) (f : FuncId) : outC (R_evalM [] (E base) 1000000 (.code ⟨f, 73, none, false⟩ codeRest fr1) H1) = 1 := by kernel_rfl
end Go.Proofs.YtecedjbhjdgnoaaGreatDoor.Ev.Tryz
