/- A part of the proof of ValueReads. -/
import Derived.Test.YtcjidlgmbjebjaaGreatDoorVre
set_option linter.unusedVariables false
set_option linter.unusedSimpArgs false
set_option maxRecDepth 100000
namespace Go.Proofs.YtcjidlgmbjebjaaGreatDoor
open Go Go.RowKit
def ofV (k n : Int) (s : ByteArray) : Value :=
  if k = 0 then (if n = 0 ∧ s.toList = [] then .iface 94 (.agg #[]) else .nilIface)
  else if k = 1 then (if s.toList = [] then .iface 104 (.int .i64 n) else .nilIface)
  else if k = 2 then (if n = 0 then .iface 98 (.string s) else .nilIface)
  else if k = 3 then (if s.toList = [] then (if n = 0 then .iface 97 (.bool false) else if n = 1 then .iface 97 (.bool true) else .nilIface) else .nilIface)
  else .nilIface
def RetV (v : Value) (W : World) (e : Ending) (w' : World) : Prop := e = .returned v ∧ Below W.heap.size W w'
set_option maxHeartbeats 2000000 in
theorem of_val (k n : Int) (s : ByteArray) (W : World) : Calls Tryz.prog 89 #[.agg #[.int .i64 k, .int .i64 n, .string s]] W (RetV (ofV k n s) W) := by
  have hk : k = 0 ∨ k = 1 ∨ k = 2 ∨ k = 3 ∨ (k ≠ 0 ∧ k ≠ 1 ∧ k ≠ 2 ∧ k ≠ 3) := by omega
  have hn : n = 0 ∨ n = 1 ∨ (n ≠ 0 ∧ n ≠ 1) := by omega
  rcases hk with rfl | rfl | rfl | rfl | ⟨k0, k1, k2, k3⟩
  all_goals (by_cases hs : s.toList = []
             · have hs2 : s.toList.isEmpty = true := by rw [hs]; rfl
               rcases hn with rfl | rfl | ⟨n0, n1⟩
               all_goals
                 (go_enter Tryz.func89, Tryz.ntmps89
                  go_wp2
                  all_goals (go_ret; refine ⟨?_, ?_⟩; focus (simp_all [ofV]; done))
                  all_goals go_grown)
             · have hs2 : s.toList.isEmpty = false := by
                 cases h : s.toList with
                 | nil => exact absurd h hs
                 | cons a b => rfl
               rcases hn with rfl | rfl | ⟨n0, n1⟩
               all_goals
                 (go_enter Tryz.func89, Tryz.ntmps89
                  go_wp2
                  all_goals (go_ret; refine ⟨?_, ?_⟩; focus (simp_all [ofV]; done))
                  all_goals go_grown))
end Go.Proofs.YtcjidlgmbjebjaaGreatDoor
