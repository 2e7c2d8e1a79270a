import Derived.Test.YtljenimhnojfhaaGreatDoorWalkRun
set_option linter.unusedVariables false
set_option linter.unusedSimpArgs false
namespace Go.Proofs.YtljenimhnojfhaaGreatDoor.Ev.Tryz
open Go Go.Proofs.YtljenimhnojfhaaGreatDoor.Ev Go.Proofs.Tryz
set_option maxRecDepth 1000000
theorem tree_neg (k a b c : Int) (m : Nat) : outB (evalQ E 100000 (.call 4 [.agg [.int .i64 k, .int .i64 (Int.negSucc m), .int .i64 a, .int .i64 b, .int .i64 c]] false) H0) = 1 := by kernel_rfl
theorem tree_0 (k a b c : Int) : outB (evalQ E 100000 (.call 4 [.agg [.int .i64 k, .int .i64 (Int.ofNat 0), .int .i64 a, .int .i64 b, .int .i64 c]] false) H0) = 1 := by kernel_rfl
theorem tree_1 (k a b c : Int) : outB (evalQ E 100000 (.call 4 [.agg [.int .i64 k, .int .i64 (Int.ofNat 1), .int .i64 a, .int .i64 b, .int .i64 c]] false) H0) = 1 := by kernel_rfl
theorem tree_2 (k a b c : Int) (m : Nat) : outB (evalQ E 100000 (.call 4 [.agg [.int .i64 k, .int .i64 (Int.ofNat (Nat.succ (Nat.succ m))), .int .i64 a, .int .i64 b, .int .i64 c]] false) H0) = 1 := by kernel_rfl
end Go.Proofs.YtljenimhnojfhaaGreatDoor.Ev.Tryz
