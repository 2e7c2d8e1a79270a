import Derived.Test.YtfmbianmccppjaaGreatDoorCatB
set_option linter.unusedVariables false
set_option linter.unusedSimpArgs false
namespace Go.Proofs.YtfmbianmccppjaaGreatDoor.Ev.Tryz
open Go Go.Proofs.YtfmbianmccppjaaGreatDoor.Ev Go.Proofs.Tryz
set_option maxRecDepth 1000000
theorem runRest (base : Nat → Option Pl) (f : FuncId) : outC (evalM [] (E base) 100000 (.code ⟨f, 138, none, false⟩ codeRest fr1) H1) = 1 := by kernel_rfl
end Go.Proofs.YtfmbianmccppjaaGreatDoor.Ev.Tryz
