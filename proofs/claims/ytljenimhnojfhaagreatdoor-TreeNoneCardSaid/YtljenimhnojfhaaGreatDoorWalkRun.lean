import Derived.Test.YtljenimhnojfhaaGreatDoorEvI
import Derived.Test.YtljenimhnojfhaaGreatDoorEvD
set_option linter.unusedVariables false
set_option linter.unusedSimpArgs false
namespace Go.Proofs.YtljenimhnojfhaaGreatDoor.Ev.Tryz
open Go Go.Proofs.YtljenimhnojfhaaGreatDoor.Ev Go.Proofs.Tryz
def outB : Option Out → Nat
  | some (.call (.bool true) _) => 1
  | some (.call (.bool false) _) => 2
  | some (.call _ _) => 3
  | some (.code _ _ _) => 4
  | none => 0
theorem outB_one {x : Option Out} (h : outB x = 1) : ∃ H', x = some (.call (.bool true) H') := by
  unfold outB at h
  split at h <;> first | exact ⟨_, rfl⟩ | (exact absurd h (by decide))
def table : List Int := [0, 274646895, 549293790, 820201905, 1098587580, 1361435347, 1640403810, 1905808397, 2197175160, 2460548119, 2722870694, 2987750089, 3280807620, 3553878443, 3811616794, 4084100981]
def g0 : Glob := ⟨305, 16, .vals (table.map (V.int .u32))⟩
def H0 : Heap := { objs := .n .e (some (objOf g0)) .e, next := 1 }
set_option maxRecDepth 1000000
theorem walk_run (a b : Int) : ∃ H', evalQ E 100000 (.call 3 [.agg [.int .i64 a, .int .i64 b]] false) H0 = some (.call (.bool true) H') := by
  have h : outB (evalQ E 100000 (.call 3 [.agg [.int .i64 a, .int .i64 b]] false) H0) = 1 := by kernel_rfl
  exact outB_one h
end Go.Proofs.YtljenimhnojfhaaGreatDoor.Ev.Tryz
